/- Ships: what an offer makes of a view, by the document. -/
import Derived.Test.YtnlhfcipapbfmaaSh23
namespace Go.Abs.B1
open Go.Proofs
set_option maxRecDepth 10000
set_option maxHeartbeats 4000000
set_option linter.all false
theorem run30 {I : Intr} (hI : I 30 = none) (hI65 : I 65 = none) (hI93 : I 93 = none) (hI63 : I 63 = some g63) (hI19 : I 19 = some g19) (hI59 : I 59 = some g59) {N : Nat} {k : Hp} {cs ds : List Value} {x : T36} {y : T47} {p : Nat → Prop}
    (r : R36.r false p k cs x) (s : R47.r false p k ds y) (hp : ∀ b, p b → b < k.size) (hro : k.ro ≤ k.size) (hS : Small x) (hl2 : (entsY y).length ≤ 1000) (hu2 : ∀ e ∈ entsY y, e.2.2.2.length ≤ 1000) (hN : 2000 < N) (q0 : f15 x = 0) (h29 : f29 y = true) :
    Al k (fun k' v => ∃ es, v = .agg es.toArray ∧ R72.r true (fr k k') k' es (accD x y)) (evalV Try.prog I N (.fn 30) #[.agg cs.toArray, .agg ds.toArray] k) := by
  obtain ⟨N, rfl⟩ : ∃ n, N = n + 1 := ⟨N - 1, by omega⟩
  have rr := R36.mono r hp id (Fr.refl _)
  have hbx := u64_bounds (show IntKind.u64.min ≤ x.2.1.1.1 ∧ x.2.1.1.1 ≤ IntKind.u64.max by obtain ⟨_, _, _, _, h, _⟩ := R36_inv r; exact h)
  have e92 := f92_eq q0 hbx.1 (by have := hS.ents; omega)
  have e61 := f61_eq q0 hbx.1 (by have := hS.ents; omega)
  have c63 := call_rdk (P := Try.prog) (A := A36) (I := I) (f := 63) (spec := fun x => vAt (f92 x.1).1 (f92 x.1).2) hI63 N (show A36.r (· < k.size) k [_] (x, ()) from ⟨_, _, rfl, rr, rfl⟩) (by omega)
  simp only [e92] at c63
  have c19 := fun i hi => call_rdk (P := Try.prog) (A := A36i) (I := I) (f := 19) (spec := fun x => .tuple #[vAt (f61 x.1 x.2.1).1 (f61 x.1 x.2.1).2.1, .bool (f61 x.1 x.2.1).2.2]) hI19 N (show A36i.r (· < k.size) k [_, _] (x, i, ()) from ⟨_, _, rfl, rr, _, _, rfl, ⟨rfl, hi⟩, rfl⟩) (by omega)
  simp only [e61] at c19
  have r00 := r
  have s00 := s
  obtain ⟨v1, v2, rfl, b1, b2, b3, hv1, b4, b5, b6, b7, b8, b9, hv2⟩ := R36_inv r
  obtain ⟨w1, w2, w3, rfl, -, -, -, -, e1, e2, hw, -, -, -, d1, d2, hw2, d3, d4, d5, d6, d7, d8, -, hw3, -⟩ := R47_inv s
  have o1 := R25.rone hv1 _ (List.mem_singleton.2 rfl)
  have o2 := R34.rone hv2 _ (List.mem_singleton.2 rfl)
  have o4 := R25.rone hw2 _ (List.mem_singleton.2 rfl)
  have o5 := R43.rone hw3 _ (List.mem_singleton.2 rfl)
  obtain ⟨oa, ca, rfl, -, hla⟩ := slice_form hw
  obtain ⟨ob, cb, rfl, -, hlb⟩ := slice_form hv2
  rw [evalV_call (P := Try.prog) (intr := I) (f := 30) (m := 113) (rs := #[.cell 4 72]) hI Try.func30 rfl rfl rfl]
  have hbp : 0 ≤ prevI y ∧ prevI y < 18446744073709551616 := u64_bounds e1
  have h55 := last_eq q0 hbx.1 (by have := hS.ents; omega)
  have hx62 := right_62 q0
  have hpv : prevI y ≤ 4611686018427387904 := by unfold f29 at h29; simp only [Bool.and_eq_true, decide_eq_true_eq] at h29; exact h29.2
  have vo1 := fun kept bits => vb_old (s0 := k.size + 3) (kept := kept) (bits := bits) (vin_mono (fun b hb => by have := hp b hb; omega) (R25.rvin hv1 _ (List.mem_singleton.2 rfl)))
  have vo2 := fun kept bits => vb_old (s0 := k.size + 3) (kept := kept) (bits := bits) (vin_mono (fun b hb => by have := hp b hb; omega) (R34.rvin hv2 _ (List.mem_singleton.2 rfl)))
  simp (maxDischargeDepth := 16) only [z08, z09, z0d, z0e, z0p, z0q, z0s, z0t, z0v, z1g, z1h, z2o, z2z, z3a, z3b, z4a, z4e, z4f, z4g, z4h, z4i, z4p, z4q, z4r, z4s, z4t, z4u, z4w, z4x, z4y, z4z, z53, z7t, Nat.reduceAdd, Nat.reduceSub, tZerox72, ro_le hro]
  rw [evalDraw_modes _ _ [(0, 0, 1), (0, 1, 3), (2, 3, 7), (2, 0, 8), (2, 8, 24), (0, 24, 56), (0, 63, 127)] (by kernel_rfl)]
  by_cases q4 : f55 x < prevI y
  · have hd : accD x y = (false, 0, [], f55 x) := by unfold accD; rw [if_pos q4]
    rw [hd]
    simp (maxDischargeDepth := 16) only [z05, z08, z09, z0a, z0b, z0d, z0e, z0f, z0o, z0p, z0q, z0s, z0t, z0u, z0v, z0x, z0z, z13, z16, z17, z1b, z1e, z1f, z1l, z1v, z1w, z1x, z2f, z2m, z2o, z2s, z2w, z2x, z2y, z31, z33, z34, z36, z38, z39, z3a, z3b, z3c, z3g, z3h, z3p, z3q, z3s, z3v, z3w, z3x, z3y, z3z, z41, z43, z44, z45, z46, z49, z4a, z4c, z4e, z4f, z4g, z4h, z4i, z4j, z4k, z4l, z4m, z4n, z4o, z4p, z4q, z4r, z4s, z4u, z4v, z4z, z50, z51, z53, z54, z5a, z5f, z5j, z5l, z5t, z5u, z5x, z62, z63, z6a, z6d, z6g, z6h, z6j, z6t, z6v, z6x, z70, z71, z72, z79, z7v, z7w, z7y, z80, z81, z82, z83, Nat.reduceEqDiff, Nat.reduceAdd, Nat.reduceSub, ↓reduceIte, Nat.reduceLT, Int.reduceLT, keepR, Hp.cell, Hp.row, Hp.wr, hasBx63, tBuildFx72x3, tBuildOkx72, tFieldx24x0, tFieldAx24x0, tFieldAx47x4, tPartx22, tPartx36, tPartx72, tSizex72, tZerox72, ro_le hro, hro, c63, q4, vo1, vo2]
    exact Al.done (by repeat (first | assumption | exact Keeps.refl _ | refine Keeps.push ?_ _ | refine Keeps.set ?_ (by first | omega | (simp only [Hp.size_push, Hp.size_setB]; omega)) _)) rfl ⟨_, rfl, R72_mk (x := (false, 0, [], f55 x)) u0 nilR (by constructor <;> simp [IntKind.min, IntKind.max, IntKind.bits, IntKind.signed] <;> have := hS.ents <;> omega)⟩
  replace c19 := c19 _ e1
  have hd : accD x y = if (f57 x (prevI y)).2.2 = true ∧ ¬ (f57 x (prevI y)).2.1 = y.2.2.2.2.1.2 then (false, 0, [], max (prevI y) 1 - 1) else foundD x y ((List.range (entsY y).length).find? (isNew x y)) := by unfold accD; rw [if_neg q4]
  rw [hd]
  by_cases q5 : (f57 x (prevI y)).2.2 = true ∧ ¬ (f57 x (prevI y)).2.1 = y.2.2.2.2.1.2
  · rw [if_pos q5]
    obtain ⟨q6, q7⟩ := q5
    have wm : IntKind.u64.wrap (prevI y - min (prevI y) 1) = max (prevI y) 1 - 1 := by rw [u64_in] <;> omega
    simp (maxDischargeDepth := 16) only [z04, z05, z08, z09, z0a, z0b, z0c, z0d, z0e, z0f, z0o, z0p, z0q, z0r, z0s, z0t, z0u, z0v, z0w, z0x, z0z, z10, z11, z12, z13, z16, z17, z1a, z1b, z1e, z1f, z1g, z1l, z1u, z1v, z1w, z1x, z1y, z25, z2c, z2f, z2l, z2m, z2o, z2s, z2t, z2w, z2x, z2y, z2z, z31, z33, z34, z35, z36, z38, z39, z3a, z3b, z3c, z3g, z3h, z3p, z3q, z3s, z3v, z3w, z3x, z3y, z3z, z41, z43, z44, z45, z46, z49, z4a, z4c, z4d, z4e, z4f, z4g, z4h, z4i, z4j, z4k, z4l, z4m, z4n, z4o, z4p, z4q, z4r, z4s, z4u, z4v, z4z, z50, z51, z52, z53, z54, z5a, z5b, z5d, z5e, z5f, z5j, z5l, z5t, z5u, z5x, z62, z63, z6a, z6d, z6g, z6h, z6j, z6t, z6v, z6x, z70, z71, z72, z79, z7v, z7w, z7y, z80, z81, z82, z83, Nat.reduceEqDiff, Nat.reduceAdd, Nat.reduceSub, ↓reduceIte, Nat.reduceLT, Int.reduceLT, yielded, keepR, Hp.cell, Hp.row, Hp.wr, hasBx19, hasBx63, tBuildFx72x3, tBuildOkx72, tFieldx24x0, tFieldAx24x0, tFieldAx24x1, tFieldAx47x4, tPartx22, tPartx36, tPartx72, tSizex24, tSizex72, tZerox24, tZerox72, ro_le hro, hro, c63, q4, vo1, vo2, c19, q6, q7, wm]
    exact Al.done (by repeat (first | assumption | exact Keeps.refl _ | refine Keeps.push ?_ _ | refine Keeps.set ?_ (by first | omega | (simp only [Hp.size_push, Hp.size_setB]; omega)) _)) rfl ⟨_, rfl, R72_mk (x := (false, 0, [], max (prevI y) 1 - 1)) u0 nilR (by constructor <;> simp [IntKind.min, IntKind.max, IntKind.bits, IntKind.signed] <;> omega)⟩
  rw [if_neg q5]
  have wl : IntKind.u64.wrap ((entsY y).length : Int) = ((entsY y).length : Int) := u64_in (by omega) (by omega)
  have wq : IntKind.u64.wrap (prevI y + ((entsY y).length : Int)) = prevI y + ((entsY y).length : Int) := u64_in (by omega) (by omega)
  have hq5 : (f57 x (prevI y)).2.2 = false ∨ ((f57 x (prevI y)).2.2 = true ∧ (f57 x (prevI y)).2.1 = y.2.2.2.2.1.2) := by
    cases h : (f57 x (prevI y)).2.2
    · exact .inl rfl
    · refine .inr ⟨rfl, Classical.byContradiction fun h' => q5 ⟨h, h'⟩⟩
  rcases hq5 with q6 | ⟨q6, q7⟩
  case' inl => simp (maxDischargeDepth := 16) only [z04, z08, z09, z0a, z0c, z0d, z0e, z0p, z0q, z0r, z0s, z0t, z0u, z0v, z0w, z0x, z0z, z10, z11, z12, z13, z15, z16, z17, z1a, z1b, z1e, z1f, z1g, z1l, z1p, z1r, z1v, z1w, z1x, z1y, z24, z2f, z2m, z2n, z2o, z2s, z2t, z2w, z2x, z2y, z2z, z31, z34, z35, z36, z38, z39, z3a, z3b, z3h, z3l, z3p, z3q, z3s, z3v, z3w, z3x, z3y, z3z, z41, z43, z44, z45, z46, z49, z4a, z4b, z4c, z4d, z4e, z4f, z4g, z4h, z4i, z4j, z4k, z4l, z4m, z4n, z4o, z4p, z4q, z4r, z4s, z4u, z4v, z4z, z50, z51, z52, z53, z54, z59, z5a, z5b, z5f, z5j, z5l, z5t, z5u, z5x, z62, z63, z6a, z6d, z6g, z6h, z6j, z6t, z6v, z6x, z70, z71, z72, z79, z7v, z7w, z7y, z7z, z80, z81, z82, z83, evalC_block, Nat.reduceEqDiff, Nat.reduceLeDiff, Nat.reduceAdd, Nat.reduceSub, ↓reduceIte, Nat.reduceLT, Int.reduceLT, yielded, keepR, Hp.cell, Hp.row, Hp.wr, hasBx19, hasBx63, tBuildFx72x0, tBuildFx72x3, tBuildOkx72, tFieldx24x0, tFieldAx24x0, tFieldAx47x4, tFieldAx47x5, tIntx3x22, tLenx34, tPartx22, tPartx34, tPartx36, tSizex24, tSizex72, tZerox24, tZerox72, ro_le hro, hro, c63, q4, vo1, vo2, c19, q6, wl, wq]
  case' inr => simp (maxDischargeDepth := 16) only [z04, z08, z09, z0a, z0c, z0d, z0e, z0p, z0q, z0r, z0s, z0t, z0u, z0v, z0w, z0x, z0z, z10, z11, z12, z13, z15, z16, z17, z1a, z1b, z1e, z1f, z1g, z1l, z1p, z1r, z1v, z1w, z1x, z1y, z24, z2c, z2f, z2m, z2n, z2o, z2s, z2t, z2w, z2x, z2y, z2z, z31, z33, z34, z35, z36, z38, z39, z3a, z3b, z3h, z3p, z3q, z3s, z3v, z3w, z3x, z3y, z3z, z41, z43, z44, z45, z46, z49, z4a, z4b, z4c, z4d, z4e, z4f, z4g, z4h, z4i, z4j, z4k, z4l, z4m, z4n, z4o, z4p, z4q, z4r, z4s, z4u, z4v, z4z, z50, z51, z52, z53, z54, z5a, z5b, z5c, z5e, z5f, z5j, z5l, z5t, z5u, z5x, z62, z63, z6a, z6d, z6g, z6h, z6j, z6t, z6v, z6x, z70, z71, z72, z79, z7v, z7w, z7y, z7z, z80, z81, z82, z83, evalC_block, Nat.reduceEqDiff, Nat.reduceLeDiff, Nat.reduceAdd, Nat.reduceSub, ↓reduceIte, Nat.reduceLT, Int.reduceLT, yielded, keepR, Hp.cell, Hp.row, Hp.wr, hasBx19, hasBx63, tBuildFx72x0, tBuildFx72x3, tBuildOkx72, tFieldx24x0, tFieldAx24x0, tFieldAx24x1, tFieldAx47x4, tFieldAx47x5, tIntx3x22, tLenx34, tPartx22, tPartx34, tPartx36, tSizex24, tSizex72, tZerox24, tZerox72, ro_le hro, hro, c63, q4, vo1, vo2, c19, q6, q7, wl, wq]
  all_goals
    refine loop_rule (Al k _) (fun m z h => ∃ i : Nat, m = (entsY y).length - i ∧ i ≤ (entsY y).length ∧ Keeps k h ∧ h.ro = k.ro ∧ k.size + 5 ≤ h.size ∧ h.get k.size = some (.cells #[.int .u64 x.1, .int .u64 x.2.1.1.1, .int .u64 x.2.1.1.2, v1, .int .u32 x.2.1.2.2.1.1, .int .u64 x.2.1.2.2.1.2, .int .u32 x.2.1.2.2.2.1.1, .int .u64 x.2.1.2.2.2.1.2, .int .u32 x.2.1.2.2.2.2.1, .int .u64 x.2.1.2.2.2.2.2, .slice ob x.2.2.length cb] true) ∧ h.get (k.size + 1) = some (.cells #[.int .i64 y.1, .int .i64 y.2.1, .int .i64 y.2.2.1, .int .u64 y.2.2.2.1, .int .u64 y.2.2.2.2.1.1, .int .u64 y.2.2.2.2.1.2, .slice oa (entsY y).length ca, .int .u64 y.2.2.2.2.2.2.1, .bool y.2.2.2.2.2.2.2.1, .int .u64 y.2.2.2.2.2.2.2.2.1, .int .u64 y.2.2.2.2.2.2.2.2.2.1, .int .u64 y.2.2.2.2.2.2.2.2.2.2.1.1.1, .int .u64 y.2.2.2.2.2.2.2.2.2.2.1.1.2, w2, .int .u32 y.2.2.2.2.2.2.2.2.2.2.1.2.2.1.1, .int .u64 y.2.2.2.2.2.2.2.2.2.2.1.2.2.1.2, .int .u32 y.2.2.2.2.2.2.2.2.2.2.1.2.2.2.1.1, .int .u64 y.2.2.2.2.2.2.2.2.2.2.1.2.2.2.1.2, .int .u32 y.2.2.2.2.2.2.2.2.2.2.1.2.2.2.2.1, .int .u64 y.2.2.2.2.2.2.2.2.2.2.1.2.2.2.2.2, .int .u32 y.2.2.2.2.2.2.2.2.2.2.2.1, w3, .int .i64 y.2.2.2.2.2.2.2.2.2.2.2.2.2] true) ∧ h.get (k.size + 2) = some (.cells #[.bool false, .int .u64 0, .slice none 0 0, .int .u64 0] true) ∧ h.get (k.size + 4) = some (.cells #[.bool true, .int .u64 0, .slice none 0 0, .int .u64 (prevI y + (entsY y).length)] true) ∧ (∀ j, j < i → isNew x y j = false) ∧
      z.tmps.size = 113 ∧ z.defers = [] ∧ z.tmps.getD 2 undef = .pointer (some ⟨k.size, 0, none⟩) ∧ z.tmps.getD 3 undef = .pointer (some ⟨k.size + 1, 0, none⟩) ∧ z.tmps.getD 4 undef = .pointer (some ⟨k.size + 2, 0, none⟩) ∧ z.tmps.getD 7 undef = .pointer (some ⟨k.size + 4, 0, none⟩) ∧ z.tmps.getD 59 undef = .slice oa (entsY y).length ca ∧ z.tmps.getD 60 undef = .int .i64 ((entsY y).length : Int) ∧ z.tmps.getD 61 undef = .int .i64 (i : Int)) ?_ _ (entsY y).length _ _ ?_ ?_
    · intro m n' z h hI' ih
      obtain ⟨i, hm, hi, hk, hr, hsz, t0, t1, t2, t4, hnew, hxs, hxd, l2, l3, l4, l7, l59, l60, l61⟩ := hI'
      obtain ⟨g, rfl⟩ : ∃ g : Nat → Value, z = { tmps := #[g 0, g 1, .pointer (some ⟨k.size, 0, none⟩), .pointer (some ⟨k.size + 1, 0, none⟩), .pointer (some ⟨k.size + 2, 0, none⟩), g 5, g 6, .pointer (some ⟨k.size + 4, 0, none⟩), g 8, g 9, g 10, g 11, g 12, g 13, g 14, g 15, g 16, g 17, g 18, g 19, g 20, g 21, g 22, g 23, g 24, g 25, g 26, g 27, g 28, g 29, g 30, g 31, g 32, g 33, g 34, g 35, g 36, g 37, g 38, g 39, g 40, g 41, g 42, g 43, g 44, g 45, g 46, g 47, g 48, g 49, g 50, g 51, g 52, g 53, g 54, g 55, g 56, g 57, g 58, .slice oa (entsY y).length ca, .int .i64 ((entsY y).length : Int), .int .i64 (i : Int), g 62, g 63, g 64, g 65, g 66, g 67, g 68, g 69, g 70, g 71, g 72, g 73, g 74, g 75, g 76, g 77, g 78, g 79, g 80, g 81, g 82, g 83, g 84, g 85, g 86, g 87, g 88, g 89, g 90, g 91, g 92, g 93, g 94, g 95, g 96, g 97, g 98, g 99, g 100, g 101, g 102, g 103, g 104, g 105, g 106, g 107, g 108, g 109, g 110, g 111, g 112], defers := [] } := ⟨fun k => z.tmps.getD k undef, (act_eta hxs hxd).trans (by simp only [unrollL, Nat.reduceAdd, Nat.zero_add, l2, l3, l4, l7, l59, l60, l61])⟩; clear hxs hxd l2 l3 l4 l7 l59 l60 l61
      have n0 : k.size < h.size := by omega
      have n1 : k.size + 1 < h.size := by omega
      have n2 : k.size + 2 < h.size := by omega
      have n4 : k.size + 4 < h.size := by omega
      have rj : ∀ j, (h.ro ≤ k.size + j) = True := fun j => by simp; omega
      have r0 : (h.ro ≤ h.size) = True := by simp; omega
      have r1 : ∀ j, (h.ro ≤ h.size + j) = True := fun j => by simp; omega
      have hs := hk.size
      have hsj : ∀ j, k.size ≤ h.size + j := fun j => by omega
      by_cases hlt : i < (entsY y).length
      · have hlt' := lt_cast hlt
        obtain ⟨q1, q2, q3⟩ := dec_meas hlt hm
        obtain ⟨e, he⟩ : ∃ e, (entsY y)[i]? = some e := ⟨_, List.getElem?_eq_getElem hlt⟩
        obtain ⟨b, off, _, cells, ow, part, ee, hb0', hg, -, hp', hle, hex, -⟩ := elem_at (s := 4) hw he rfl (by decide)
        cases ee
        have hb := hp b hb0'
        obtain ⟨u, rfl, dd1, dd2, dd3, hu⟩ := R85_inv hp'
        have hg' := (hk.get b hb).trans hg
        have hb' : b < h.size := by omega
        have hnn : (0 ≤ (i : Int)) = True := by simp
        have w0 : IntKind.u64.wrap (i : Int) = (i : Int) := u64_in (by omega) (by omega)
        have w1' : IntKind.u64.wrap (prevI y + 1) = prevI y + 1 := u64_in (by omega) (by omega)
        have w2' : IntKind.u64.wrap (prevI y + 1 + (i : Int)) = prevI y + i + 1 := by rw [u64_in] <;> omega
        have w3' : IntKind.i64.wrap ((i : Int) + 1) = ((i + 1 : Nat) : Int) := i64_succ (by omega)
        have ou : oneC u = true := R43.rone hu u (List.mem_singleton.2 rfl)
        by_cases g1 : prevI y + i + 1 ≤ x.2.1.1.1
        · simp (maxDischargeDepth := 16) only [z04, z06, z08, z09, z0a, z0b, z0d, z0e, z0g, z0j, z0k, z0p, z0q, z0s, z0t, z0u, z0v, z0w, z0z, z10, z11, z13, z15, z16, z18, z1e, z1f, z1g, z1v, z1w, z1x, z1z, z24, z2d, z2e, z2o, z2u, z2w, z2x, z2y, z2z, z34, z35, z3a, z3b, z3p, z3v, z3w, z44, z45, z46, z49, z4c, z4e, z4f, z4g, z4h, z4i, z4m, z4n, z4o, z4p, z4q, z4r, z4z, z50, z51, z53, z54, z5a, z5f, z72, z7z, evalC_block, Nat.reduceAdd, ↓reduceIte, Hp.cell, Hp.row, Hp.wr, tElemx34, tFieldAx24x0, tFieldAx33x0, tFieldAx36x1, tFieldAx47x4, tIntx3x22, tPartx22, tPartx85, tSizex85, tZerox85, hlt', hnn, hg', ne_f hb', ne_f0 hb', lt_t hb', lt_t0 hb', hle, hex, Int.toNat_natCast, r0, ou, t0, t1, ne_f n0, ne_f0 n0, lt_t n0, lt_t0 n0, ne_f n1, ne_f0 n1, lt_t n1, lt_t0 n1, w0, w1', w2', w3', g1]
          refine ih (m - 1) _ _ q1 ⟨i + 1, q2, q3, (by repeat (first | assumption | exact Keeps.refl _ | refine Keeps.push ?_ _ | refine Keeps.set ?_ (by first | omega | (simp only [Hp.size_push, Hp.size_setB]; omega)) _)), hr, by simp only [Hp.size_push, Hp.size_setB]; omega, by simp (maxDischargeDepth := 16) only [z34, z35, ↓reduceIte, ne_f n0, ne_f0 n0, lt_t n0, lt_t0 n0, t0], by simp (maxDischargeDepth := 16) only [z34, z35, ↓reduceIte, ne_f n1, ne_f0 n1, lt_t n1, lt_t0 n1, t1], by simp (maxDischargeDepth := 16) only [z34, z35, ↓reduceIte, ne_f n2, ne_f0 n2, lt_t n2, lt_t0 n2, t2], by simp (maxDischargeDepth := 16) only [z34, z35, ↓reduceIte, ne_f n4, ne_f0 n4, lt_t n4, lt_t0 n4, t4], fun j hj => ?_, rfl, rfl, rfl, rfl, rfl, rfl, rfl, rfl, rfl⟩
          rcases Nat.lt_succ_iff_lt_or_eq.1 hj with hj | rfl
          · exact hnew j hj
          · unfold isNew; rw [decide_eq_true g1]; rfl
        obtain ⟨n, hn⟩ : ∃ n : Nat, (n : Int) = prevI y + i - x.2.1.1.1 := ⟨(prevI y + i - x.2.1.1.1).toNat, by omega⟩
        have hnt : (prevI y + i - x.2.1.1.1).toNat = n := by omega
        have x1 : IntKind.u64.wrap (prevI y + (i : Int) + 1 - x.2.1.1.1) = (n : Int) + 1 := by rw [u64_in] <;> omega
        have x2 : IntKind.u64.wrap ((n : Int) + 1 - 1) = (n : Int) := by rw [u64_in] <;> omega
        have x5 : IntKind.u64.wrap ((n : Int) + 1) = (n : Int) + 1 := by rw [u64_in] <;> omega
        have hlx := hS.ents
        have x6 : IntKind.u64.wrap (x.2.2.length : Int) = (x.2.2.length : Int) := u64_in (by omega) (by omega)
        simp (maxDischargeDepth := 16) only [z04, z08, z09, z0a, z0b, z0c, z0d, z0e, z0p, z0q, z0s, z0t, z0u, z0v, z0w, z0z, z10, z11, z13, z15, z16, z18, z1e, z1f, z1g, z1v, z1w, z1x, z1z, z24, z25, z2d, z2e, z2o, z2u, z2w, z2x, z2y, z2z, z34, z35, z3a, z3b, z3p, z3v, z3w, z44, z45, z46, z49, z4c, z4e, z4f, z4g, z4h, z4i, z4m, z4n, z4o, z4p, z4q, z4r, z4z, z50, z51, z53, z54, z5a, z5b, z5f, z72, z7t, z7z, evalC_block, Nat.reduceAdd, ↓reduceIte, Hp.cell, Hp.row, Hp.wr, tElemx34, tFieldAx24x0, tFieldAx33x0, tFieldAx36x1, tFieldAx47x4, tIntx3x22, tPartx22, tPartx85, tSizex85, tZerox85, hlt', hnn, hg', ne_f hb', ne_f0 hb', lt_t hb', lt_t0 hb', hle, hex, Int.toNat_natCast, r0, ou, t0, t1, ne_f n0, ne_f0 n0, lt_t n0, lt_t0 n0, ne_f n1, ne_f0 n1, lt_t n1, lt_t0 n1, w0, w1', w2', g1, x1, x2]
        rw [evalDraw_modes _ _ [(0, 0, 1), (0, 0, 2), (1, 2, 6), (0, 6, 14), (0, 14, 30), (0, 31, 63), (0, 63, 127), (2, 127, 255), (2, 255, 511), (0, 127, 639), (2, 639, 1663), (0, 127, 2175), (0, 127, 4223), (0, 4223, 12415), (2, 15999, 32383), (1, 32767, 65535), (0, 65535, 131071)] (by kernel_rfl)]
        have vob := fun kept bits => vb_old (s0 := h.size + 1) (kept := kept) (bits := bits) (vin_mono (fun b hb => by have := hp b hb; omega) (R34.rvin hv2 _ (List.mem_singleton.2 rfl)))
        have vou := fun kept bits => vb_old (s0 := h.size + 1) (kept := kept) (bits := bits) (vin_mono (fun b hb => by have := hp b hb; omega) (R43.rvin hu _ (List.mem_singleton.2 rfl)))
        have n0' : k.size < h.size + 1 := by omega
        have n1' : k.size + 1 < h.size + 1 := by omega
        have n2' : k.size + 2 < h.size + 1 := by omega
        have n4' : k.size + 4 < h.size + 1 := by omega
        have hcd := fun (h' : Hp) (hk' : Keeps k h') => cut_rp (P := Try.prog) (t := 34) (e := R85) (lov := some (.int .i64 (i : Int))) (hiv := none) (l := i) (hh := (entsY y).length) (h := h') (R34.mono hw (fun _ h => h) id (hk'.fr hp)) tElemx34 (by decide) ⟨_, rfl⟩ rfl (by omega) (Nat.le_refl _) (.inr hlt)
        rw [show R85.len = 4 from rfl, List.take_length] at hcd
        have hd1 := fun h' hk' => (hcd h' hk').1
        have hfound : hasY x y i = false → (List.range (entsY y).length).find? (isNew x y) = some i := fun hh => List.find?_range_eq_some.2 ⟨by unfold isNew; rw [decide_eq_false g1, hh]; rfl, by simpa using hlt, fun j hj => by rw [hnew j hj]; rfl⟩
        by_cases g2 : (n : Int) < (x.2.2.length : Int)
        · have nk : ∀ j, (h.size + (j + 1) ≤ k.size) = False := fun j => by simp; omega
          have nk1 : (h.size + 1 ≤ k.size) = False := by simp; omega
          have hnl : n < x.2.2.length := by omega
          obtain ⟨e', he'⟩ : ∃ e', x.2.2[n]? = some e' := ⟨_, List.getElem?_eq_getElem hnl⟩
          have hcut : (x.2.2.take (n + 1)).drop n = [e'] := by
            rw [List.take_add_one, he', List.drop_append_of_le_length (by simp; omega), List.drop_eq_nil_of_le (by simp only [List.length_take]; omega)]
            rfl
          have hc := fun (h' : Hp) (hk' : Keeps k h') => cut_rp (P := Try.prog) (t := 34) (e := R85) (lov := some (.int .u64 (n : Int))) (hiv := some (.int .u64 ((n : Int) + 1))) (l := n) (hh := n + 1) (h := h') (R34.mono hv2 (fun _ h => h) id (hk'.fr hp)) tElemx34 (by decide) ⟨_, rfl⟩ ⟨_, rfl⟩ (by omega) (by omega) (.inr hnl)
          rw [show R85.len = 4 from rfl, hcut] at hc
          obtain ⟨H0, hH0⟩ : ∃ H0, H0 = ((h.push (some (.cells #[.int .u64 0, .int .i64 0, .int .u32 0, .slice none 0 0] true))).setB h.size (some (.cells #[.int .u64 e.1, .int .i64 e.2.1, .int .u32 e.2.2.1, u] true))).push (some (.cells #[.int .u64 e.1, .int .i64 e.2.1, .int .u32 e.2.2.1, u] true)) := ⟨_, rfl⟩
          have hkH : Keeps k H0 := by rw [hH0]; exact (by repeat (first | assumption | exact Keeps.refl _ | refine Keeps.push ?_ _ | refine Keeps.set ?_ (by first | omega | (simp only [Hp.size_push, Hp.size_setB]; omega)) _))
          have hsH : H0.size = h.size + 2 := by rw [hH0]; simp only [Hp.size_push, Hp.size_setB]
          have hgH : H0.get (h.size + 1) = some (.cells #[.int .u64 e.1, .int .i64 e.2.1, .int .u32 e.2.2.1, u] true) := by rw [hH0]; simp (maxDischargeDepth := 16) only [z34, z4a, z4b, ↓reduceIte]
          have huH := R43.mono hu (p' := (· < H0.size)) (fun b hb => by have := hp b hb; omega) id (hkH.fr hp)
          have hvw : ∀ bits : Nat, bits.testBit 8 = true → (H0.view bits [(8, h.size + 1, h.size + 2)]).get (h.size + 1) = some (.cells #[.int .u64 e.1, .int .i64 e.2.1, .int .u32 e.2.2.1, u] true) := fun bits hb => by
            rw [view_cons, if_pos (by rw [hb]; rfl), view_nil]; exact hgH
          have kvw : ∀ bits : Nat, Keeps k (H0.view bits [(8, h.size + 1, h.size + 2)]) := fun bits => keeps_view hkH (fun z hz => by
            rw [List.mem_singleton.1 hz]; show k.size ≤ h.size + 1; omega)
          have hcv := fun bits => (hc _ (kvw bits)).1
          have c59 := fun (bits : Nat) (hb : decide (bits / 2 ^ 8 % 2 = 1) = true) => call_rdk (P := Try.prog) (A := A34) (I := I) (f := 59) (spec := fun x => .bool (decide (x.1 = x.2.1))) hI59 N (h := H0.view bits [(8, h.size + 1, h.size + 2)]) (show A34.r (· < (H0.view bits [(8, h.size + 1, h.size + 2)]).size) (H0.view bits [(8, h.size + 1, h.size + 2)]) [.slice (some ⟨h.size + 1, 0, none⟩) 1 1, _] ([e], [e'], ()) from by
            have huH := R43.mono hu (p' := (· < (H0.view bits [(8, h.size + 1, h.size + 2)]).size)) (fun b hb => by have := hp b hb; rw [view_size]; omega) id ((kvw bits).fr hp)
            have hmk := R85_mk (x := e) dd1 dd2 dd3 huH
            have rep1 : R34.r false (· < (H0.view bits [(8, h.size + 1, h.size + 2)]).size) (H0.view bits [(8, h.size + 1, h.size + 2)]) [.slice (some ⟨h.size + 1, 0, none⟩) 1 1] [e] := ⟨_, _, rfl, ⟨Nat.le_refl _, .inl (by unfold capOpen; omega)⟩, by simp only [List.length_cons, List.length_nil]; unfold capOpen; omega, .inr ⟨h.size + 1, 0, _, true, rfl, by rw [view_size]; omega, hvw bits (by rw [tb]; exact hb), fun _ => rfl, fun v hv => R85.rvin hmk v (by simpa using hv), Nat.le_refl _, rows.one_row hmk⟩⟩
            exact ⟨_, _, rfl, rep1, _, _, rfl, (Rp.slice R85).mono (hc _ (kvw bits)).2 (fun b hb => by have := hp b hb; rw [view_size]; omega) id (Fr.refl _), rfl⟩) (by omega) _ (Keeps.refl _)
          rw [hH0] at hcv c59
          have hee : ([e] = [e']) = (e = e') := by simp
          simp only [hee] at c59
          have hhas : hasY x y i = decide (e = e') := by unfold hasY; rw [decide_eq_true (by omega), he, hnt, he']; simp
          have voc := fun kept bits => vb_old (s0 := h.size + 1) (kept := kept) (bits := bits) (vin_mono (fun b hb => by have := hp b hb; omega) ((Rp.slice R85).rvin (hc k (Keeps.refl _)).2 _ (List.mem_singleton.2 rfl)))
          by_cases m0 : e = e'
          · simp (maxDischargeDepth := 16) only [z06, z08, z0a, z0b, z0d, z0e, z0g, z0j, z0k, z0p, z0q, z0s, z0t, z0v, z0w, z0x, z0z, z10, z12, z13, z15, z16, z1e, z1i, z1k, z1l, z1p, z1r, z1v, z1y, z24, z2d, z2o, z2w, z2x, z33, z34, z35, z36, z3a, z3b, z3h, z3x, z3y, z3z, z41, z43, z44, z45, z46, z4a, z4b, z4e, z4f, z4g, z4h, z4i, z4j, z4k, z4l, z4m, z4n, z4o, z4p, z4q, z4r, z4s, z4u, z4v, z4z, z50, z51, z52, z53, z5a, z5b, z5c, z5d, z5e, z5f, z5h, z5j, z5l, z5n, z5t, z5u, z5w, z5y, z60, z61, z62, z63, z6a, z6b, z6d, z6g, z6h, z6i, z6k, z6p, z6t, z6v, z6w, z6x, z6y, z6z, z70, z71, z74, z75, z77, z79, z7a, z7d, z7e, z7z, z87, z88, Nat.reduceEqDiff, Nat.reduceLeDiff, Nat.reduceAdd, Nat.reduceSub, ↓reduceIte, Nat.reduceDiv, Nat.reduceMod, Nat.reducePow, Nat.reduceLT, Int.reduceLT, yielded, keepR, Hp.cell, Hp.row, hasBx59, tFieldAx36x2, tIntx3x22, tLenx34, tPartx34, tPartx85, tRowx34, t0, ne_f n0, ne_f0 n0, lt_t n0, lt_t0 n0, x6, g2, vob, vou, x5, nk, hcv, voc, c59, eq_true m0, w3']
            refine ih (m - 1) _ _ q1 ⟨i + 1, q2, q3, (by repeat (first | assumption | exact Keeps.refl _ | refine Keeps.push ?_ _ | refine Keeps.set ?_ (by first | omega | (simp only [Hp.size_push, Hp.size_setB]; omega)) _)), hr, by simp only [Hp.size_push, Hp.size_setB]; omega, by simp (maxDischargeDepth := 16) only [z34, z35, z4a, z4b, ↓reduceIte, ne_f n0, ne_f0 n0, lt_t n0, lt_t0 n0, ne_f n0', ne_f0 n0', lt_t n0', lt_t0 n0', t0], by simp (maxDischargeDepth := 16) only [z34, z35, z4a, z4b, ↓reduceIte, ne_f n1, ne_f0 n1, lt_t n1, lt_t0 n1, ne_f n1', ne_f0 n1', lt_t n1', lt_t0 n1', t1], by simp (maxDischargeDepth := 16) only [z34, z35, z4a, z4b, ↓reduceIte, ne_f n2, ne_f0 n2, lt_t n2, lt_t0 n2, ne_f n2', ne_f0 n2', lt_t n2', lt_t0 n2', t2], by simp (maxDischargeDepth := 16) only [z34, z35, z4a, z4b, ↓reduceIte, ne_f n4, ne_f0 n4, lt_t n4, lt_t0 n4, ne_f n4', ne_f0 n4', lt_t n4', lt_t0 n4', t4], fun j hj => ?_, rfl, rfl, rfl, rfl, rfl, rfl, rfl, rfl, rfl⟩
            rcases Nat.lt_succ_iff_lt_or_eq.1 hj with hj | rfl
            · exact hnew j hj
            · unfold isNew; rw [hhas, decide_eq_true m0]; simp
          · have hf := hfound (by rw [hhas, decide_eq_false m0])
            rw [hf]
            simp (maxDischargeDepth := 16) only [z04, z08, z09, z0a, z0c, z0d, z0e, z0q, z0s, z0t, z0v, z0w, z0x, z0z, z10, z12, z13, z15, z16, z1e, z1i, z1k, z1l, z1p, z1r, z1v, z1y, z24, z2d, z2o, z2w, z2x, z33, z34, z35, z36, z3a, z3b, z3h, z3x, z3y, z3z, z41, z43, z44, z45, z46, z4a, z4b, z4e, z4f, z4g, z4h, z4i, z4j, z4k, z4l, z4m, z4n, z4o, z4p, z4q, z4r, z4s, z4u, z4v, z4z, z50, z51, z52, z53, z5a, z5b, z5c, z5d, z5e, z5f, z5h, z5j, z5l, z5n, z5t, z5u, z5w, z5y, z60, z61, z62, z63, z6a, z6b, z6d, z6g, z6h, z6i, z6k, z6p, z6t, z6v, z6w, z6x, z6y, z6z, z70, z71, z74, z75, z77, z79, z7a, z7d, z7e, z7w, z7x, z7z, z87, z88, Nat.reduceEqDiff, Nat.reduceLeDiff, Nat.reduceAdd, Nat.reduceSub, ↓reduceIte, Nat.reduceDiv, Nat.reduceMod, Nat.reducePow, Nat.reduceLT, Int.reduceLT, yielded, keepR, Hp.cell, Hp.row, hasBx59, hasBx65, tFieldAx36x2, tFieldAx47x5, tIntx3x22, tLenx34, tPartx34, tPartx85, tRowx34, t0, t1, ne_f n0, ne_f0 n0, lt_t n0, lt_t0 n0, ne_f n1, ne_f0 n1, lt_t n1, lt_t0 n1, ne_f n0', ne_f0 n0', lt_t n0', lt_t0 n0', ne_f n1', ne_f0 n1', lt_t n1', lt_t0 n1', x6, g2, vob, vou, x5, nk, hcv, voc, c59, m0, hd1, hk, hs]
            refine al_kops (run65 hI65 hI93 (N := N) (p := p) (hcd _ (by repeat (first | assumption | exact Keeps.refl _ | refine Keeps.push ?_ _ | refine Keeps.set ?_ (by first | omega | (simp only [Hp.size_push, Hp.size_setB]; omega)) _))).2 (fun b hb => by have := hp b hb; simp only [Hp.size_push, Hp.size_setB]; omega) (by simp only [Hp.size_push, Hp.size_setB, Hp.ro_push, Hp.ro_setB]; omega) (by simp only [List.length_drop]; omega) (by simp only [List.length_drop]; omega) (fun e he => hu2 e (List.mem_of_mem_drop he))) ?_
            rintro w k2 hk2 hr2 ha
            have hv := ha.rp
            obtain ⟨o6, c6, rfl⟩ := ha.form
            have hs2 := hk2.size
            simp only [Hp.size_push, Hp.size_setB, Hp.ro_push, Hp.ro_setB] at hs2 hr2 hv
            have gm4 : k2.get (k.size + 4) = _ := (hk2.get _ (by first | omega | (simp only [Hp.size_push, Hp.size_setB, Hp.ro_push, Hp.ro_setB]; omega))).trans (by simp (maxDischargeDepth := 16) only [z34, z35, z4a, z4b, ↓reduceIte, ne_f n4, ne_f0 n4, lt_t n4, lt_t0 n4, ne_f n4', ne_f0 n4', lt_t n4', lt_t0 n4', t4]; rfl)
            have gm2 : k2.get (k.size + 2) = _ := (hk2.get _ (by first | omega | (simp only [Hp.size_push, Hp.size_setB, Hp.ro_push, Hp.ro_setB]; omega))).trans (by simp (maxDischargeDepth := 16) only [z34, z35, z4a, z4b, ↓reduceIte, ne_f n2, ne_f0 n2, lt_t n2, lt_t0 n2, ne_f n2', ne_f0 n2', lt_t n2', lt_t0 n2', t2]; rfl)
            have rj2 : ∀ j, (k2.ro ≤ k.size + j) = True := fun j => by simp; omega
            simp (maxDischargeDepth := 16) only [z05, z06, z08, z09, z0d, z0e, z0g, z0j, z0m, z0o, z0p, z0q, z0s, z0t, z0u, z0v, z0z, z16, z1e, z1f, z1v, z1w, z1x, z2m, z2o, z2q, z2w, z2x, z2y, z33, z35, z36, z3b, z3c, z3g, z3p, z3q, z3s, z3v, z3w, z3x, z3y, z3z, z41, z43, z44, z45, z46, z49, z4d, z4e, z4f, z4g, z4h, z4i, z4p, z4q, z4r, z4z, z50, z51, z53, z5f, z72, Nat.reduceEqDiff, Nat.reduceLeDiff, Nat.reduceAdd, Nat.reduceSub, ↓reduceIte, Hp.row, Hp.wr, tFieldAx72x1, tFieldAx72x2, tPartx72, tSizex22, tSizex34, tSizex72, gm4, gm2, rj2]
            have hkk : Keeps k k2 := Keeps.trans (by repeat (first | assumption | exact Keeps.refl _ | refine Keeps.push ?_ _ | refine Keeps.set ?_ (by first | omega | (simp only [Hp.size_push, Hp.size_setB]; omega)) _)) hk2
            refine Al.done (((hkk.set (by omega) _).set (by omega) _).set (by omega) _) (by simp only [Hp.ro_setB]; omega) ⟨_, rfl, R72_mk (x := foundD x y (some i)) (by unfold foundD; constructor <;> simp [IntKind.min, IntKind.max, IntKind.bits, IntKind.signed] <;> omega) ((Rp.slice R85).mono hv (fun b hb => ⟨by have h := hb.1; (try simp only [Hp.size_push, Hp.size_setB] at h); omega, by have := hb.2; simp only [Hp.size_setB]; omega⟩) id (Fr.of fun b hb => by have h := hb.1; (try simp only [Hp.size_push, Hp.size_setB] at h); rw [get_set_ne (by omega), get_set_ne (by omega), get_set_ne (by omega)])) (by unfold foundD; constructor <;> simp [IntKind.min, IntKind.max, IntKind.bits, IntKind.signed] <;> omega)⟩
        · have hf := hfound (by unfold hasY; rw [decide_eq_false (by omega)]; rfl)
          rw [hf]
          simp (maxDischargeDepth := 16) only [z04, z08, z09, z0a, z0c, z0d, z0e, z0q, z0s, z0t, z0v, z0w, z0x, z0z, z10, z12, z13, z15, z16, z1e, z1k, z1l, z1p, z1r, z1v, z1y, z2d, z2w, z2x, z34, z35, z3b, z3h, z3l, z46, z4a, z4b, z4e, z4f, z4g, z4h, z4i, z4j, z4k, z4l, z4m, z4n, z4o, z4s, z4u, z4v, z4z, z50, z51, z52, z53, z59, z5a, z5b, z5j, z5n, z5t, z5u, z5w, z5y, z60, z61, z62, z63, z6a, z6h, z6t, z6v, z6x, z70, z71, z7w, z7x, z7z, z87, Nat.reduceAdd, ↓reduceIte, yielded, keepR, Hp.cell, hasBx65, tFieldAx36x2, tFieldAx47x5, tIntx3x22, tLenx34, tPartx34, t0, t1, ne_f n0, ne_f0 n0, lt_t n0, lt_t0 n0, ne_f n1, ne_f0 n1, lt_t n1, lt_t0 n1, ne_f n0', ne_f0 n0', lt_t n0', lt_t0 n0', ne_f n1', ne_f0 n1', lt_t n1', lt_t0 n1', x6, g2, vob, hd1, hk, hs]
          refine al_kops (run65 hI65 hI93 (N := N) (p := p) (hcd _ (by repeat (first | assumption | exact Keeps.refl _ | refine Keeps.push ?_ _ | refine Keeps.set ?_ (by first | omega | (simp only [Hp.size_push, Hp.size_setB]; omega)) _))).2 (fun b hb => by have := hp b hb; simp only [Hp.size_push, Hp.size_setB]; omega) (by simp only [Hp.size_push, Hp.size_setB, Hp.ro_push, Hp.ro_setB]; omega) (by simp only [List.length_drop]; omega) (by simp only [List.length_drop]; omega) (fun e he => hu2 e (List.mem_of_mem_drop he))) ?_
          rintro w k2 hk2 hr2 ha
          have hv := ha.rp
          obtain ⟨o6, c6, rfl⟩ := ha.form
          have hs2 := hk2.size
          simp only [Hp.size_push, Hp.size_setB, Hp.ro_push, Hp.ro_setB] at hs2 hr2 hv
          have gm4 : k2.get (k.size + 4) = _ := (hk2.get _ (by first | omega | (simp only [Hp.size_push, Hp.size_setB, Hp.ro_push, Hp.ro_setB]; omega))).trans (by simp (maxDischargeDepth := 16) only [z34, z35, ↓reduceIte, ne_f n4, ne_f0 n4, lt_t n4, lt_t0 n4, ne_f n4', ne_f0 n4', lt_t n4', lt_t0 n4', t4]; rfl)
          have gm2 : k2.get (k.size + 2) = _ := (hk2.get _ (by first | omega | (simp only [Hp.size_push, Hp.size_setB, Hp.ro_push, Hp.ro_setB]; omega))).trans (by simp (maxDischargeDepth := 16) only [z34, z35, ↓reduceIte, ne_f n2, ne_f0 n2, lt_t n2, lt_t0 n2, ne_f n2', ne_f0 n2', lt_t n2', lt_t0 n2', t2]; rfl)
          have rj2 : ∀ j, (k2.ro ≤ k.size + j) = True := fun j => by simp; omega
          simp (maxDischargeDepth := 16) only [z05, z06, z08, z09, z0d, z0e, z0g, z0j, z0m, z0o, z0p, z0q, z0s, z0t, z0u, z0v, z0z, z16, z1e, z1f, z1v, z1w, z1x, z2m, z2o, z2q, z2w, z2x, z2y, z33, z35, z36, z3b, z3c, z3g, z3p, z3q, z3s, z3v, z3w, z3x, z3y, z3z, z41, z43, z44, z45, z46, z49, z4d, z4e, z4f, z4g, z4h, z4i, z4p, z4q, z4r, z4z, z50, z51, z53, z5f, z72, Nat.reduceEqDiff, Nat.reduceLeDiff, Nat.reduceAdd, Nat.reduceSub, ↓reduceIte, Hp.row, Hp.wr, tFieldAx72x1, tFieldAx72x2, tPartx72, tSizex22, tSizex34, tSizex72, gm4, gm2, rj2]
          have hkk : Keeps k k2 := Keeps.trans (by repeat (first | assumption | exact Keeps.refl _ | refine Keeps.push ?_ _ | refine Keeps.set ?_ (by first | omega | (simp only [Hp.size_push, Hp.size_setB]; omega)) _)) hk2
          refine Al.done (((hkk.set (by omega) _).set (by omega) _).set (by omega) _) (by simp only [Hp.ro_setB]; omega) ⟨_, rfl, R72_mk (x := foundD x y (some i)) (by unfold foundD; constructor <;> simp [IntKind.min, IntKind.max, IntKind.bits, IntKind.signed] <;> omega) ((Rp.slice R85).mono hv (fun b hb => ⟨by have h := hb.1; (try simp only [Hp.size_push, Hp.size_setB] at h); omega, by have := hb.2; simp only [Hp.size_setB]; omega⟩) id (Fr.of fun b hb => by have h := hb.1; (try simp only [Hp.size_push, Hp.size_setB] at h); rw [get_set_ne (by omega), get_set_ne (by omega), get_set_ne (by omega)])) (by unfold foundD; constructor <;> simp [IntKind.min, IntKind.max, IntKind.bits, IntKind.signed] <;> omega)⟩
      · have hlt' := nlt_cast hlt
        have : i = (entsY y).length := by omega
        simp (maxDischargeDepth := 16) only [z05, z06, z08, z09, z0a, z0c, z0d, z0e, z0g, z0j, z0m, z0o, z0p, z0q, z0s, z0t, z0u, z0v, z0z, z13, z1e, z1f, z1v, z1w, z1x, z2d, z2o, z2x, z2y, z33, z3b, z3c, z3g, z3p, z3q, z3s, z3v, z3w, z3x, z3y, z3z, z41, z43, z44, z45, z46, z49, z4e, z4f, z4g, z4h, z4i, z4p, z4q, z4r, z4z, z53, z5b, z5f, z72, Nat.reduceAdd, Nat.reduceSub, ↓reduceIte, Hp.row, Hp.wr, tPartx72, tSizex72, hlt', t4, t2, ne_f n2, ne_f0 n2, lt_t n2, lt_t0 n2, ne_f n4, ne_f0 n4, lt_t n4, lt_t0 n4, rj]
        have hnone : (List.range (entsY y).length).find? (isNew x y) = none := by
          rw [List.find?_eq_none]
          intro j hj
          rw [hnew j (by rw [this]; simpa using hj)]
          decide
        rw [hnone]
        exact Al.done (by repeat (first | assumption | exact Keeps.refl _ | refine Keeps.push ?_ _ | refine Keeps.set ?_ (by first | omega | (simp only [Hp.size_push, Hp.size_setB]; omega)) _)) (by simp only [Hp.ro_setB]; exact hr) ⟨_, rfl, R72_mk (x := foundD x y none) u0 nilR (by unfold foundD; constructor <;> simp [IntKind.min, IntKind.max, IntKind.bits, IntKind.signed] <;> omega)⟩
    · omega
    · exact ⟨0, by omega, by omega, (by repeat (first | assumption | exact Keeps.refl _ | refine Keeps.push ?_ _ | refine Keeps.set ?_ (by first | omega | (simp only [Hp.size_push, Hp.size_setB]; omega)) _)), by simp only [Hp.ro_push, Hp.ro_setB], by simp only [Hp.size_push, Hp.size_setB]; omega, by simp (maxDischargeDepth := 16) only [z34, z35, z38, z39, z3a, z4a, z4b, Nat.reduceEqDiff, Nat.reduceAdd, ↓reduceIte], by simp (maxDischargeDepth := 16) only [z34, z35, z36, z3a, z4a, z4b, Nat.reduceEqDiff, Nat.reduceAdd, ↓reduceIte], by simp (maxDischargeDepth := 16) only [z34, z35, z36, z3a, z4a, z4b, Nat.reduceEqDiff, Nat.reduceAdd, ↓reduceIte], by simp (maxDischargeDepth := 16) only [z33], fun j hj => by omega, rfl, rfl, rfl, rfl, rfl, rfl, rfl, rfl, rfl⟩
end Go.Abs.B1
