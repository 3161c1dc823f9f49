/- Ships: views that may be, places. -/
import Derived.Test.YtnlhfcipapbfmaaSh2
namespace Go.Abs.B1
open Go.Proofs
set_option maxRecDepth 10000
set_option linter.all false
abbrev TB := List (FuncId × (Array Value → Hp → Option (Value × Hp)))
abbrev A36 := Ar.agg R36 Ar.nil
abbrev A36i := Ar.agg R36 (Ar.one (Rp.int .u64) Ar.nil)
def f15 (x : T36) : Int := if 4611686018427387904 < x.2.1.1.1 then 240 else if 40 < (x.2.2.length : Int) then 240 else 0
noncomputable def g15 := gRd A36 fun x => .int .i64 (f15 x.1)
theorem con15 : Con Try.prog (CKb Try.prog) 15 g15 := by
  refine Con.rd base ok0 _ (fun a => by simp [flatB]) ?_
  rintro h _ ⟨x, ⟨⟩⟩ hro ⟨cs, vs, rfl, r, rfl⟩
  obtain ⟨v1, v2, rfl, -, -, -, -, -, -, -, -, -, -, h2⟩ := R36_inv r
  obtain ⟨a2, c2, rfl, _, hl2⟩ := slice_form h2
  refine ⟨1, ?_⟩
  show ∃ h', evalV Try.prog I0 (0 + 1) (.fn 15) _ h = _ ∧ _
  rw [evalV_call (P := Try.prog) (intr := I0) (f := 15) (m := 14) (rs := #[.tmp 2]) rfl Try.func15 rfl rfl rfl]
  by_cases q1 : 4611686018427387904 < x.2.1.1.1 <;> by_cases q2 : 40 < (x.2.2.length : Int) <;>
    simp (maxDischargeDepth := 16) only [z04, z05, z08, z09, z0a, z0b, z0c, z0d, z0e, z0f, z0o, z0p, z0q, z0r, z0s, z0t, z0v, z0w, z0z, z10, z11, z12, z13, z16, z1e, z1h, z1p, z1r, z1v, z1y, z2f, z2o, z2w, z2x, z34, z3b, z3c, z3f, z3k, z4e, z4f, z4g, z4h, z4i, z4m, z4n, z4o, z4p, z4q, z4r, z4s, z4t, z4u, z4w, z4x, z4y, z4z, z50, z51, z52, z53, z54, z59, z5a, z5b, z5e, Nat.reduceSub, ↓reduceIte, yielded, Hp.cell, tFieldAx24x0, tFieldAx33x0, tFieldAx36x1, tFieldAx36x2, tLenx34, tPartx22, tPartx34, q1, q2, f15] <;> exact ⟨_, rfl, (Keeps.get (by repeat (first | exact Keeps.refl _ | refine Keeps.push ?_ _ | refine Keeps.set ?_ (by first | omega | (simp only [Hp.size_push, Hp.size_setB]; omega)) _)))⟩
def f14 (x : T36) : Bool := decide (x.2.1.1.1 ≤ 4611686018427387904) && decide ((x.2.2.length : Int) ≤ 40)
noncomputable def g14 := gRd A36 fun x => .bool (f14 x.1)
theorem con14 : Con Try.prog (CKb Try.prog) 14 g14 := by
  refine Con.rd base ok0 _ (fun a => by simp [flatB]) ?_
  rintro h _ ⟨x, ⟨⟩⟩ hro ⟨cs, vs, rfl, r, rfl⟩
  obtain ⟨v1, v2, rfl, -, -, -, -, -, -, -, -, -, -, h2⟩ := R36_inv r
  obtain ⟨a2, c2, rfl, _, hl2⟩ := slice_form h2
  refine ⟨1, ?_⟩
  show ∃ h', evalV Try.prog I0 (0 + 1) (.fn 14) _ h = _ ∧ _
  rw [evalV_call (P := Try.prog) (intr := I0) (f := 14) (m := 14) (rs := #[.tmp 2]) rfl Try.func14 rfl rfl rfl]
  by_cases q1 : x.2.1.1.1 ≤ 4611686018427387904 <;> by_cases q2 : (x.2.2.length : Int) ≤ 40 <;>
    simp (maxDischargeDepth := 16) only [z05, z08, z09, z0d, z0e, z0o, z0p, z0q, z0r, z0s, z0t, z0v, z0w, z0z, z10, z11, z12, z13, z16, z1e, z1h, z1p, z1r, z1v, z1y, z2e, z2o, z2w, z2x, z34, z3b, z3c, z3f, z3l, z4e, z4f, z4g, z4h, z4i, z4m, z4n, z4o, z4p, z4q, z4r, z4s, z4t, z4u, z4w, z4x, z4y, z4z, z50, z51, z52, z53, z54, z59, z5a, z5b, z5e, z5f, z5h, Nat.reduceSub, ↓reduceIte, yielded, Hp.cell, tFieldAx24x0, tFieldAx33x0, tFieldAx36x1, tFieldAx36x2, tLenx34, tPartx22, tPartx34, q1, q2, f14] <;> exact ⟨_, rfl, (Keeps.get (by repeat (first | exact Keeps.refl _ | refine Keeps.push ?_ _ | refine Keeps.set ?_ (by first | omega | (simp only [Hp.size_push, Hp.size_setB]; omega)) _)))⟩
theorem right_eq (x : T36) : f14 x = decide (f15 x = 0) := by
  unfold f14 f15
  by_cases q1 : 4611686018427387904 < x.2.1.1.1
  · rw [if_pos q1, decide_eq_false (by omega : ¬ x.2.1.1.1 ≤ 4611686018427387904)]; rfl
  · rw [if_neg q1, decide_eq_true (by omega : x.2.1.1.1 ≤ 4611686018427387904)]
    by_cases q2 : 40 < (x.2.2.length : Int)
    · rw [if_pos q2, decide_eq_false (by omega)]; rfl
    · rw [if_neg q2, decide_eq_true (by omega)]; rfl
/-- The index of a view's last entry, as it is reckoned. -/
def f55 (x : T36) : Int := IntKind.u64.wrap (x.2.1.1.1 + IntKind.u64.wrap (x.2.2.length : Int))
noncomputable def g55 := gRd A36 fun x => .int .u64 (f55 x.1)
theorem con55 : Con Try.prog (CKb Try.prog) 55 g55 := by
  refine Con.rd base ok0 _ (fun a => by simp [flatB]) ?_
  rintro h _ ⟨x, ⟨⟩⟩ hro ⟨cs, vs, rfl, r, rfl⟩
  obtain ⟨v1, v2, rfl, -, -, -, -, -, -, -, -, -, -, h2⟩ := R36_inv r
  obtain ⟨a2, c2, rfl, _, hl2⟩ := slice_form h2
  refine ⟨1, ?_⟩
  show ∃ h', evalV Try.prog I0 (0 + 1) (.fn 55) _ h = _ ∧ _
  rw [evalV_call (P := Try.prog) (intr := I0) (f := 55) (m := 12) (rs := #[.tmp 2]) rfl Try.func55 rfl rfl rfl]
  simp (maxDischargeDepth := 16) only [z05, z08, z09, z0d, z0e, z0o, z0p, z0q, z0s, z0t, z0v, z0w, z0z, z11, z13, z15, z16, z1e, z1h, z1p, z1r, z1v, z24, z2o, z2w, z2x, z34, z3b, z3c, z3f, z4e, z4f, z4g, z4h, z4i, z4m, z4n, z4o, z4p, z4q, z4r, z4s, z4t, z4u, z4w, z4x, z4y, z4z, z50, z51, z53, z54, z7z, Nat.reduceSub, ↓reduceIte, Hp.cell, tFieldAx24x0, tFieldAx33x0, tFieldAx36x1, tFieldAx36x2, tIntx3x22, tLenx34, tPartx22, tPartx34, f55]
  exact ⟨_, rfl, (Keeps.get (by repeat (first | exact Keeps.refl _ | refine Keeps.push ?_ _ | refine Keeps.set ?_ (by first | omega | (simp only [Hp.size_push, Hp.size_setB]; omega)) _)))⟩
noncomputable def TS1 : TB := [(15, g15), (14, g14), (55, g55)]
noncomputable abbrev IS1 : Intr := fun f => TS1.lookup f
theorem okS1 : IntrOk Try.prog (CKb Try.prog) IS1 := Con.table fun x hx => by
  simp only [TS1, List.mem_cons, List.not_mem_nil, or_false] at hx
  rcases hx with rfl | rfl | rfl
  · exact con15
  · exact con14
  · exact con55
abbrev vAt (a b : Int) : Value := .agg #[.int .u64 a, .int .u64 b]
/-- The epoch of a view's entry. -/
def epoAt (x : T36) (i : Nat) : Int := match x.2.2[i]? with
  | some e => e.1
  | none => 0
def elemI (x : T36) (i : Int) : Int := IntKind.u64.wrap (IntKind.u64.wrap (i - x.2.1.1.1) - 1)
def f57 (x : T36) (i : Int) : Int × Int × Bool :=
  if i < x.2.1.1.1 then (0, 0, false) else if f55 x < i then (0, 0, false) else if i = x.2.1.1.1 then (x.2.1.1.1, x.2.1.1.2, true) else (i, epoAt x (elemI x i).toNat, true)
noncomputable def g57 := gRd A36i fun x => .tuple #[vAt (f57 x.1 x.2.1).1 (f57 x.1 x.2.1).2.1, .bool (f57 x.1 x.2.1).2.2]
theorem in_view {x : T36} {i : Int} (hx : IntKind.u64.min ≤ x.2.1.1.1 ∧ x.2.1.1.1 ≤ IntKind.u64.max) (hi : IntKind.u64.min ≤ i ∧ i ≤ IntKind.u64.max) (hn : x.2.2.length < capOpen) (h1 : ¬ i < x.2.1.1.1) (h2 : ¬ f55 x < i) (h3 : ¬ i = x.2.1.1.1) :
    0 ≤ elemI x i ∧ elemI x i < (x.2.2.length : Int) := by
  have a := u64_bounds hx; have b := u64_bounds hi
  unfold f55 at h2
  unfold elemI
  unfold capOpen at hn
  rw [u64_in (x := (x.2.2.length : Int)) (by omega) (by omega), wrapU64] at h2
  rw [u64_in (x := i - _) (by omega) (by omega), u64_in (by omega) (by omega)]
  omega
theorem con57 : Con Try.prog (CKb Try.prog) 57 g57 := by
  refine Con.rd base okS1 _ (fun a => by simp [flatB]) ?_
  rintro h _ ⟨x, i, ⟨⟩⟩ hro ⟨cs, vs, rfl, r, v, vs', rfl, ⟨e, hi⟩, rfl⟩
  simp only [List.cons.injEq, and_true] at e
  subst e
  dsimp only at r hi
  have c55 := call_rdk (P := Try.prog) (I := IS1) (f := 55) (spec := fun x => .int .u64 (f55 x.1)) rfl 9 (show A36.r (· < h.size) h [_] (x, ()) from ⟨_, _, rfl, r, rfl⟩)
  obtain ⟨v1, v2, rfl, -, hx, -, -, -, -, -, -, -, -, h2⟩ := R36_inv r
  refine ⟨10, ?_⟩
  show ∃ h', evalV Try.prog IS1 (9 + 1) (.fn 57) _ h = _ ∧ _
  rw [evalV_call (P := Try.prog) (intr := IS1) (f := 57) (m := 40) (rs := #[.cell 4 24, .tmp 5]) rfl Try.func57 rfl rfl rfl]
  by_cases q1 : i < x.2.1.1.1
  · simp (maxDischargeDepth := 16) only [z05, z08, z09, z0a, z0b, z0d, z0e, z0f, z0i, z0o, z0p, z0q, z0r, z0s, z0t, z0u, z0v, z0w, z0z, z10, z11, z12, z13, z16, z1b, z1e, z1f, z1g, z1h, z1v, z1w, z1x, z1y, z2d, z2o, z2w, z2x, z2y, z2z, z33, z34, z35, z36, z38, z39, z3a, z3b, z3d, z3f, z3g, z3k, z3p, z3v, z3w, z3x, z3y, z3z, z40, z41, z42, z43, z44, z45, z46, z49, z4a, z4c, z4d, z4e, z4f, z4g, z4h, z4i, z4j, z4l, z4m, z4n, z4o, z4p, z4q, z4r, z4s, z4t, z4u, z4w, z4x, z4y, z4z, z50, z51, z52, z53, z54, z59, z5a, z5f, z72, z80, z81, evalC_block, Nat.reduceEqDiff, Nat.reduceLeDiff, Nat.reduceAdd, Nat.reduceSub, ↓reduceIte, yielded, Hp.cell, Hp.row, Hp.wr, tBuildOkx24, tFieldAx24x0, tFieldAx33x0, tFieldAx36x1, tPartx22, tPartx24, tSizex24, tZerox24, ro_le hro, hro, q1, f57]
    exact ⟨_, rfl, (Keeps.get (by repeat (first | exact Keeps.refl _ | refine Keeps.push ?_ _ | refine Keeps.set ?_ (by first | omega | (simp only [Hp.size_push, Hp.size_setB]; omega)) _)))⟩
  by_cases q2 : f55 x < i
  · simp (maxDischargeDepth := 16) only [z05, z08, z09, z0a, z0b, z0d, z0e, z0f, z0i, z0o, z0p, z0q, z0r, z0s, z0t, z0u, z0v, z0w, z0x, z0z, z10, z11, z12, z13, z16, z1b, z1e, z1f, z1g, z1h, z1l, z1v, z1w, z1x, z1y, z2d, z2f, z2o, z2w, z2x, z2y, z2z, z33, z34, z35, z36, z38, z39, z3a, z3b, z3d, z3f, z3g, z3h, z3p, z3v, z3w, z3x, z3y, z3z, z40, z41, z42, z43, z44, z45, z46, z49, z4a, z4c, z4d, z4e, z4f, z4g, z4h, z4i, z4j, z4k, z4l, z4m, z4n, z4o, z4p, z4q, z4r, z4s, z4t, z4u, z4v, z4w, z4x, z4y, z4z, z50, z51, z52, z53, z54, z59, z5a, z5b, z5e, z5f, z72, z7b, z7v, z7w, z7x, z80, z81, evalC_block, Nat.reduceEqDiff, Nat.reduceLeDiff, Nat.reduceAdd, Nat.reduceSub, ↓reduceIte, yielded, Hp.cell, Hp.row, Hp.wr, hasBx55, tBuildOkx24, tFieldAx24x0, tFieldAx33x0, tFieldAx36x1, tPartx22, tPartx24, tPartx36, tSizex24, tZerox24, ro_le hro, hro, q1, q2, f57, c55]
    exact ⟨_, rfl, (Keeps.get (by repeat (first | exact Keeps.refl _ | refine Keeps.push ?_ _ | refine Keeps.set ?_ (by first | omega | (simp only [Hp.size_push, Hp.size_setB]; omega)) _)))⟩
  by_cases q3 : i = x.2.1.1.1
  · subst q3
    simp (maxDischargeDepth := 16) only [z05, z08, z09, z0a, z0b, z0c, z0d, z0e, z0f, z0i, z0o, z0p, z0q, z0r, z0s, z0t, z0u, z0v, z0w, z0x, z0z, z10, z11, z12, z13, z16, z1e, z1f, z1g, z1h, z1l, z1v, z1w, z1x, z1y, z2b, z2d, z2f, z2o, z2w, z2x, z2y, z2z, z33, z34, z35, z36, z38, z39, z3a, z3b, z3d, z3f, z3g, z3h, z3p, z3v, z3w, z3x, z3y, z3z, z40, z41, z42, z43, z44, z45, z46, z49, z4a, z4c, z4d, z4e, z4f, z4g, z4h, z4i, z4j, z4k, z4l, z4m, z4n, z4o, z4p, z4q, z4r, z4s, z4t, z4u, z4v, z4w, z4x, z4y, z4z, z50, z51, z52, z53, z54, z59, z5a, z5b, z5e, z5f, z72, z7b, z7v, z7w, z7x, evalC_block, Nat.reduceEqDiff, Nat.reduceLeDiff, Nat.reduceAdd, Nat.reduceSub, ↓reduceIte, yielded, Hp.cell, Hp.row, Hp.wr, hasBx55, tFieldAx24x0, tFieldAx33x0, tFieldAx36x1, tPartx22, tPartx24, tPartx36, tSizex24, tZerox24, ro_le hro, hro, q1, q2, f57, c55]
    exact ⟨_, rfl, (Keeps.get (by repeat (first | exact Keeps.refl _ | refine Keeps.push ?_ _ | refine Keeps.set ?_ (by first | omega | (simp only [Hp.size_push, Hp.size_setB]; omega)) _)))⟩
  obtain ⟨a2, c2, rfl, _, hl2⟩ := slice_form h2
  obtain ⟨k1, k2⟩ := in_view hx hi hl2 q1 q2 q3
  obtain ⟨n, hn⟩ : ∃ n : Nat, elemI x i = (n : Int) := ⟨(elemI x i).toNat, by omega⟩
  obtain ⟨y, hy⟩ : ∃ y, x.2.2[n]? = some y := ⟨_, List.getElem?_eq_getElem (by omega)⟩
  obtain ⟨b, off, c, cells, ow, part, e, hb, hg, -, -, -, hp, he, -⟩ := slice_elem (e := R85) h2 hy (by decide)
  cases e
  obtain ⟨w, rfl, -⟩ := R85_inv hp
  have e0 : cells[off + n * 4]? = some (.int .u64 y.1) := he 0 (by decide)
  have hep : epoAt x n = y.1 := by simp [epoAt, hy]
  have hn' : (elemI x i).toNat = n := by omega
  have hn2 := hn
  unfold elemI at hn2
  have n1 : (0 : Int) ≤ (n : Int) := by omega
  have n2 : (n : Int) < (x.2.2.length : Int) := by omega
  simp (maxDischargeDepth := 16) only [z04, z05, z08, z09, z0a, z0c, z0d, z0e, z0h, z0o, z0p, z0q, z0r, z0s, z0t, z0u, z0v, z0w, z0x, z0z, z10, z11, z12, z13, z16, z18, z1b, z1e, z1f, z1g, z1h, z1l, z1v, z1w, z1x, z1y, z1z, z25, z2b, z2d, z2f, z2m, z2o, z2u, z2w, z2x, z2y, z2z, z33, z34, z35, z36, z38, z39, z3a, z3b, z3d, z3f, z3g, z3h, z3p, z3v, z3w, z3x, z3y, z3z, z40, z41, z42, z43, z44, z45, z46, z49, z4a, z4c, z4d, z4e, z4f, z4g, z4h, z4i, z4j, z4k, z4l, z4m, z4n, z4o, z4p, z4q, z4r, z4s, z4t, z4u, z4v, z4w, z4x, z4y, z4z, z50, z51, z52, z53, z54, z59, z5b, z5e, z5f, z72, z7b, z7v, z7w, z7x, z80, z81, z82, z83, evalC_block, Nat.reduceEqDiff, Nat.reduceLeDiff, Nat.reduceAdd, Nat.reduceSub, ↓reduceIte, yielded, Hp.cell, Hp.row, Hp.wr, hasBx55, tBuildFx24x0, tBuildFx24x1, tBuildOkx24, tElemx34, tFieldAx24x0, tFieldAx33x0, tFieldAx36x1, tFieldAx36x2, tFieldAx85x0, tPartx22, tPartx24, tPartx34, tPartx36, tSizex24, tZerox24, ro_le hro, hro, q1, q2, q3, f57, c55, hn', hep, hn2, n1, n2, ne_f hb, ne_f0 hb, lt_t hb, lt_t0 hb, hg, Int.toNat_natCast, e0]
  exact ⟨_, rfl, (Keeps.get (by repeat (first | exact Keeps.refl _ | refine Keeps.push ?_ _ | refine Keeps.set ?_ (by first | omega | (simp only [Hp.size_push, Hp.size_setB]; omega)) _)))⟩
end Go.Abs.B1
