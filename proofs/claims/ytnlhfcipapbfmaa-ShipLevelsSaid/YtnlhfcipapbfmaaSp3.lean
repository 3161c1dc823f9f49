/- Ships: a view behind a change. -/
import Derived.Test.YtnlhfcipapbfmaaSp2
namespace Go.Abs.B1
open Go.Proofs
set_option maxRecDepth 10000
set_option maxHeartbeats 4000000
set_option linter.all false
theorem f55_is {x : T36} (h0 : 0 ≤ x.2.1.1.1) (h1 : x.2.1.1.1 ≤ 4611686018427387904) (hl : x.2.2.length ≤ 1000) : f55 x = x.2.1.1.1 + x.2.2.length := by
  unfold f55
  rw [u64_in (x := (x.2.2.length : Int)) (by omega) (by omega), u64_in (by omega) (by omega)]
def putOk (x : T36) (y : T72) : Bool := !decide (y.2.1 ≤ x.2.1.1.1) && !decide (f55 x + 1 < y.2.1) && !decide ((y.2.2.1.length : Int) = 0)
def putB (x : T36) (y : T72) : Bool := if y.2.1 = 0 then decide ((y.2.2.1.length : Int) = 0) else putOk x y
def putD (x : T36) (y : T72) : T36 := if y.2.1 = 0 then x else if putOk x y = true then (x.1, x.2.1, x.2.2.take (y.2.1 - x.2.1.1.1 - 1).toNat ++ y.2.2.1) else x
theorem run32p {I : Intr} (hI : I 32 = none) (hI33 : I 33 = some g33) (hI67 : I 67 = none) (hI95 : I 95 = none) {N : Nat} {k : Hp} {cs ds : List Value} {x : T36} {y : T72} {p : Nat → Prop}
    (r : R36.r false p k cs x) (s : R72.r false p k ds y) (hp : ∀ b, p b → b < k.size) (hro : k.ro ≤ k.size) (hb : x.2.1.1.1 ≤ 4611686018427387904) (hl : x.2.2.length ≤ 900) (hl2 : y.2.2.1.length ≤ 900) (hN : 100 < N) :
    Al k (fun k' u => ∃ es, u = .tuple #[.agg es.toArray, .bool (putB x y)] ∧ R36.r false (fun b => p b ∨ k.size ≤ b ∧ b < k'.size) k' es (putD x y)) (evalV Try.prog I N (.fn 32) #[.agg cs.toArray, .agg ds.toArray] k) := by
  obtain ⟨N, rfl⟩ : ∃ m, N = m + 1 := ⟨N - 1, by omega⟩
  have r0 := R36.mono r hp id (Fr.refl _)
  have c33 := call_rdk (P := Try.prog) (A := A36) (I := I) (f := 33) (spec := fun x => .int .u64 (f55 x.1)) hI33 N (show A36.r (· < k.size) k [_] (x, ()) from ⟨_, _, rfl, r0, rfl⟩) (by omega)
  obtain ⟨v1, v2, rfl, b1, b2, b3, hv1, b4, b5, b6, b7, b8, b9, hv2⟩ := R36_inv r
  obtain ⟨w, rfl, d1, hw, d2⟩ := R72_inv s
  have i1 : vin (· < k.size) v1 := vin_mono hp (R25.rvin hv1 v1 (by simp))
  have i2 : vin (· < k.size) v2 := vin_mono hp (R34.rvin hv2 v2 (by simp))
  have i3 : vin (· < k.size) w := vin_mono hp (R34.rvin hw w (by simp))
  have o1 : oneC v1 = true := R25.rone hv1 v1 (by simp)
  have o2 : oneC v2 = true := R34.rone hv2 v2 (by simp)
  have o3 : oneC w = true := R34.rone hw w (by simp)
  have vo1 := fun s0 kept bits (h : k.size ≤ s0) => vb_old (s0 := s0) (kept := kept) (bits := bits) (vin_mono (fun b hb => Nat.lt_of_lt_of_le hb h) i1)
  have vo2 := fun s0 kept bits (h : k.size ≤ s0) => vb_old (s0 := s0) (kept := kept) (bits := bits) (vin_mono (fun b hb => Nat.lt_of_lt_of_le hb h) i2)
  have vo3 := fun s0 kept bits (h : k.size ≤ s0) => vb_old (s0 := s0) (kept := kept) (bits := bits) (vin_mono (fun b hb => Nat.lt_of_lt_of_le hb h) i3)
  have hw0 := hw
  have hv20 := hv2
  obtain ⟨aw, cw, rfl, -, -⟩ := slice_form hw
  obtain ⟨av, cv, rfl, -, -⟩ := slice_form hv2
  have p1 : ∀ j, (k.ro ≤ k.size + j) = True := fun j => eq_true (by omega)
  have p0 : (k.ro ≤ k.size) = True := eq_true hro
  rw [evalV_call (P := Try.prog) (intr := I) (f := 32) (m := 53) (rs := #[.cell 4 36, .tmp 5]) hI Try.func32 rfl rfl rfl]
  by_cases q0 : y.2.1 = 0
  · have e0 : (y.2.1 = 0) = True := eq_true q0
    simp (maxDischargeDepth := 16) only [z08, z09, z0a, z0b, z0d, z0e, z0p, z0q, z0s, z0t, z0v, z0w, z0z, z11, z13, z16, z1e, z1g, z1h, z1v, z2b, z2o, z2w, z2x, z2z, z34, z36, z3a, z3b, z4a, z4e, z4f, z4g, z4h, z4i, z4m, z4n, z4o, z4p, z4q, z4r, z4s, z4t, z4u, z4w, z4x, z4y, z4z, z50, z51, z53, z5a, z7t, Nat.reduceEqDiff, Nat.reduceAdd, Nat.reduceSub, ↓reduceIte, Hp.cell, tFieldAx72x1, tPartx22, tZerox36, e0]
    rw [evalDraw_modes _ _ [(2, 0, 1), (0, 0, 2), (3, 2, 6), (0, 6, 14), (0, 14, 30), (5, 4, 33), (0, 63, 127)] (by kernel_rfl)]
    simp (maxDischargeDepth := 16) only [z05, z0d, z0e, z0f, z0o, z0t, z0u, z0v, z0w, z0z, z11, z13, z16, z1e, z1f, z1p, z1r, z1v, z1w, z1x, z2b, z2o, z2w, z2x, z2y, z33, z34, z35, z36, z38, z39, z3a, z3b, z3d, z3f, z3g, z3p, z3v, z3w, z3x, z3y, z3z, z41, z43, z44, z45, z46, z49, z4a, z4b, z4c, z4d, z4e, z4f, z4g, z4h, z4i, z4m, z4n, z4o, z4p, z4q, z4r, z4z, z50, z51, z52, z53, z5a, z5f, z5j, z5l, z5t, z5u, z5x, z62, z63, z66, z6a, z6d, z6g, z6h, z6t, z6v, z6x, z70, z71, z72, z79, z7b, z8c, z8e, z8i, z8j, z8k, z8l, z8m, z8n, z8o, z8p, z8q, z8s, z8t, Nat.reduceEqDiff, Nat.reduceAdd, Nat.reduceSub, ↓reduceIte, Nat.reduceDiv, Nat.reduceMod, Nat.reduceLT, Int.reduceLT, keepR, Hp.cell, Hp.row, Hp.wr, tFieldAx72x2, tLenx34, tPartx34, tPartx36, tSizex36, o1, o2, vo1, vo2, vo3, p1]
    refine Al.done (by repeat (first | assumption | exact Keeps.refl _ | refine Keeps.push ?_ _ | refine Keeps.set ?_ (by first | omega | (simp only [Hp.size_push, Hp.size_setB]; omega)) _)) (by simp only [Hp.ro_setB, Hp.ro_push]) ⟨_, by rw [putB, if_pos q0], ?_⟩
    rw [putD, if_pos q0]
    exact R36.mono r (fun b hb => .inl hb) id (Keeps.fr (h := k) (by repeat (first | assumption | exact Keeps.refl _ | refine Keeps.push ?_ _ | refine Keeps.set ?_ (by first | omega | (simp only [Hp.size_push, Hp.size_setB]; omega)) _)) hp)
  · have e0 : (y.2.1 = 0) = False := eq_false q0
    have h55 := f55_is b2.1 hb (by omega)
    have bb := u64_bounds b2
    have bi := u64_bounds d1
    have w1 : IntKind.u64.wrap (f55 x + 1) = f55 x + 1 := by rw [u64_in (by omega) (by omega)]
    have no : putOk x y = false → putB x y = false ∧ putD x y = x := fun h => ⟨by rw [putB, if_neg q0, h], by rw [putD, if_neg q0, if_neg (by rw [h]; decide)]⟩
    by_cases q1 : y.2.1 ≤ x.2.1.1.1
    · have e1 : (y.2.1 ≤ x.2.1.1.1) = True := eq_true q1
      obtain ⟨n1, n2⟩ := no (by unfold putOk; rw [decide_eq_true q1]; rfl)
      rw [n1, n2]
      simp (maxDischargeDepth := 16) only [z04, z08, z09, z0a, z0c, z0d, z0e, z0p, z0q, z0s, z0t, z0v, z0w, z0z, z11, z13, z16, z1e, z1g, z1h, z1v, z2b, z2o, z2w, z2x, z2z, z34, z36, z3a, z3b, z4a, z4e, z4f, z4g, z4h, z4i, z4m, z4n, z4o, z4p, z4q, z4r, z4s, z4t, z4u, z4w, z4x, z4y, z4z, z50, z51, z53, z5b, z7t, Nat.reduceEqDiff, Nat.reduceAdd, Nat.reduceSub, ↓reduceIte, Hp.cell, tFieldAx72x1, tPartx22, tZerox36, e0]
      rw [evalDraw_modes _ _ [(0, 0, 1), (2, 1, 3), (0, 0, 4), (0, 4, 12), (0, 12, 28), (2, 28, 60), (0, 63, 127), (0, 127, 255), (0, 255, 511), (2, 511, 1023), (2, 255, 1279), (2, 1279, 3327), (0, 3327, 7423), (0, 8191, 16383), (0, 16383, 32767), (0, 32767, 65535), (0, 65535, 131071), (1, 131071, 262143), (0, 262143, 524287), (0, 524287, 1048575), (0, 1048575, 2097151)] (by kernel_rfl)]
      simp (maxDischargeDepth := 16) only [z05, z08, z09, z0a, z0b, z0d, z0e, z0f, z0o, z0p, z0q, z0s, z0t, z0u, z0v, z0w, z0z, z10, z11, z12, z13, z16, z1e, z1f, z1v, z1w, z1x, z1y, z2e, z2o, z2w, z2x, z2y, z33, z34, z36, z38, z39, z3a, z3b, z3d, z3f, z3g, z3k, z3p, z3v, z3w, z3x, z3y, z3z, z41, z43, z44, z45, z46, z49, z4a, z4c, z4e, z4f, z4g, z4h, z4i, z4m, z4n, z4o, z4p, z4q, z4r, z4z, z50, z51, z52, z53, z54, z59, z5a, z5f, z5j, z5l, z5t, z5u, z5x, z5y, z60, z61, z62, z63, z6a, z6h, z6j, z6t, z6v, z6x, z70, z71, z72, z79, z7c, z7d, Nat.reduceEqDiff, Nat.reduceAdd, Nat.reduceSub, ↓reduceIte, Nat.reduceLT, Int.reduceLT, yielded, keepR, Hp.cell, Hp.row, Hp.wr, tFieldAx24x0, tFieldAx33x0, tFieldAx36x1, tFieldAx72x1, tPartx22, tPartx36, tSizex36, o1, o2, p1, e1]
      refine Al.done (by repeat (first | assumption | exact Keeps.refl _ | refine Keeps.push ?_ _ | refine Keeps.set ?_ (by first | omega | (simp only [Hp.size_push, Hp.size_setB]; omega)) _)) (by simp only [Hp.ro_setB, Hp.ro_push]) ⟨_, rfl, R36.mono r (fun b hb => .inl hb) id (Keeps.fr (h := k) (by repeat (first | assumption | exact Keeps.refl _ | refine Keeps.push ?_ _ | refine Keeps.set ?_ (by first | omega | (simp only [Hp.size_push, Hp.size_setB]; omega)) _)) hp)⟩
    · have e1 : (y.2.1 ≤ x.2.1.1.1) = False := eq_false q1
      by_cases q2 : f55 x + 1 < y.2.1
      · have e2 : (f55 x + 1 < y.2.1) = True := eq_true q2
        obtain ⟨n1, n2⟩ := no (by unfold putOk; rw [decide_eq_true q2]; simp)
        rw [n1, n2]
        simp (maxDischargeDepth := 16) only [z04, z08, z09, z0a, z0c, z0d, z0e, z0p, z0q, z0s, z0t, z0v, z0w, z0z, z11, z13, z16, z1e, z1g, z1h, z1v, z2b, z2o, z2w, z2x, z2z, z34, z36, z3a, z3b, z4a, z4e, z4f, z4g, z4h, z4i, z4m, z4n, z4o, z4p, z4q, z4r, z4s, z4t, z4u, z4w, z4x, z4y, z4z, z50, z51, z53, z5b, z7t, Nat.reduceEqDiff, Nat.reduceAdd, Nat.reduceSub, ↓reduceIte, Hp.cell, tFieldAx72x1, tPartx22, tZerox36, e0]
        rw [evalDraw_modes _ _ [(0, 0, 1), (2, 1, 3), (0, 0, 4), (0, 4, 12), (0, 12, 28), (2, 28, 60), (0, 63, 127), (0, 127, 255), (0, 255, 511), (2, 511, 1023), (2, 255, 1279), (2, 1279, 3327), (0, 3327, 7423), (0, 8191, 16383), (0, 16383, 32767), (0, 32767, 65535), (0, 65535, 131071), (1, 131071, 262143), (0, 262143, 524287), (0, 524287, 1048575), (0, 1048575, 2097151)] (by kernel_rfl)]
        simp (maxDischargeDepth := 16) only [z05, z08, z09, z0a, z0b, z0d, z0e, z0f, z0o, z0p, z0q, z0s, z0t, z0u, z0v, z0w, z0x, z0z, z10, z11, z12, z13, z16, z1e, z1f, z1l, z1v, z1w, z1x, z1y, z24, z2e, z2f, z2o, z2w, z2x, z2y, z33, z34, z36, z38, z39, z3a, z3b, z3d, z3f, z3g, z3h, z3k, z3p, z3v, z3w, z3x, z3y, z3z, z41, z43, z44, z45, z46, z49, z4a, z4c, z4e, z4f, z4g, z4h, z4i, z4j, z4k, z4l, z4m, z4n, z4o, z4p, z4q, z4r, z4s, z4u, z4v, z4z, z50, z51, z52, z53, z54, z59, z5a, z5b, z5e, z5f, z5j, z5l, z5t, z5u, z5x, z5y, z60, z61, z62, z63, z6a, z6d, z6g, z6h, z6j, z6t, z6v, z6x, z70, z71, z72, z79, z7b, z7c, z7d, z7v, z7w, z7y, Nat.reduceEqDiff, Nat.reduceAdd, Nat.reduceSub, ↓reduceIte, Nat.reduceLT, Int.reduceLT, yielded, keepR, Hp.cell, Hp.row, Hp.wr, hasBx33, tFieldAx24x0, tFieldAx33x0, tFieldAx36x1, tFieldAx72x1, tPartx22, tPartx36, tSizex36, o1, o2, vo1, vo2, p1, e1, e2, c33, w1]
        refine Al.done (by repeat (first | assumption | exact Keeps.refl _ | refine Keeps.push ?_ _ | refine Keeps.set ?_ (by first | omega | (simp only [Hp.size_push, Hp.size_setB]; omega)) _)) (by simp only [Hp.ro_setB, Hp.ro_push]) ⟨_, rfl, R36.mono r (fun b hb => .inl hb) id (Keeps.fr (h := k) (by repeat (first | assumption | exact Keeps.refl _ | refine Keeps.push ?_ _ | refine Keeps.set ?_ (by first | omega | (simp only [Hp.size_push, Hp.size_setB]; omega)) _)) hp)⟩
      · have e2 : (f55 x + 1 < y.2.1) = False := eq_false q2
        by_cases q3 : (y.2.2.1.length : Int) = 0
        · have e3 : ((y.2.2.1.length : Int) = 0) = True := eq_true q3
          obtain ⟨n1, n2⟩ := no (by unfold putOk; rw [decide_eq_true q3]; simp)
          rw [n1, n2]
          simp (maxDischargeDepth := 16) only [z04, z08, z09, z0a, z0c, z0d, z0e, z0p, z0q, z0s, z0t, z0v, z0w, z0z, z11, z13, z16, z1e, z1g, z1h, z1v, z2b, z2o, z2w, z2x, z2z, z34, z36, z3a, z3b, z4a, z4e, z4f, z4g, z4h, z4i, z4m, z4n, z4o, z4p, z4q, z4r, z4s, z4t, z4u, z4w, z4x, z4y, z4z, z50, z51, z53, z5b, z7t, Nat.reduceEqDiff, Nat.reduceAdd, Nat.reduceSub, ↓reduceIte, Hp.cell, tFieldAx72x1, tPartx22, tZerox36, e0]
          rw [evalDraw_modes _ _ [(0, 0, 1), (2, 1, 3), (0, 0, 4), (0, 4, 12), (0, 12, 28), (2, 28, 60), (0, 63, 127), (0, 127, 255), (0, 255, 511), (2, 511, 1023), (2, 255, 1279), (2, 1279, 3327), (0, 3327, 7423), (0, 8191, 16383), (0, 16383, 32767), (0, 32767, 65535), (0, 65535, 131071), (1, 131071, 262143), (0, 262143, 524287), (0, 524287, 1048575), (0, 1048575, 2097151)] (by kernel_rfl)]
          simp (maxDischargeDepth := 16) only [z05, z08, z09, z0a, z0b, z0d, z0e, z0f, z0o, z0p, z0q, z0s, z0t, z0u, z0v, z0w, z0x, z0z, z10, z11, z12, z13, z16, z1e, z1f, z1l, z1p, z1r, z1v, z1w, z1x, z1y, z24, z2b, z2e, z2f, z2o, z2w, z2x, z2y, z33, z34, z36, z38, z39, z3a, z3b, z3d, z3f, z3g, z3h, z3p, z3v, z3w, z3x, z3y, z3z, z41, z43, z44, z45, z46, z49, z4a, z4c, z4e, z4f, z4g, z4h, z4i, z4j, z4k, z4l, z4m, z4n, z4o, z4p, z4q, z4r, z4s, z4u, z4v, z4z, z50, z51, z52, z53, z54, z59, z5a, z5b, z5e, z5f, z5j, z5l, z5n, z5t, z5u, z5x, z5y, z60, z61, z62, z63, z6a, z6d, z6g, z6h, z6j, z6t, z6v, z6x, z70, z71, z72, z79, z7b, z7c, z7d, z7v, z7w, z7y, Nat.reduceEqDiff, Nat.reduceAdd, Nat.reduceSub, ↓reduceIte, Nat.reduceLT, Int.reduceLT, yielded, keepR, Hp.cell, Hp.row, Hp.wr, hasBx33, tFieldAx24x0, tFieldAx33x0, tFieldAx36x1, tFieldAx72x1, tFieldAx72x2, tLenx34, tPartx22, tPartx34, tPartx36, tSizex36, o1, o2, vo1, vo2, vo3, p1, e1, e2, e3, c33, w1]
          refine Al.done (by repeat (first | assumption | exact Keeps.refl _ | refine Keeps.push ?_ _ | refine Keeps.set ?_ (by first | omega | (simp only [Hp.size_push, Hp.size_setB]; omega)) _)) (by simp only [Hp.ro_setB, Hp.ro_push]) ⟨_, rfl, R36.mono r (fun b hb => .inl hb) id (Keeps.fr (h := k) (by repeat (first | assumption | exact Keeps.refl _ | refine Keeps.push ?_ _ | refine Keeps.set ?_ (by first | omega | (simp only [Hp.size_push, Hp.size_setB]; omega)) _)) hp)⟩
        · have e3 : ((y.2.2.1.length : Int) = 0) = False := eq_false q3
          obtain ⟨n, hn⟩ : ∃ n : Nat, y.2.1 - x.2.1.1.1 - 1 = (n : Int) := ⟨_, (Int.toNat_of_nonneg (by omega)).symm⟩
          have hok : putOk x y = true := by unfold putOk; rw [decide_eq_false q1, decide_eq_false q2, decide_eq_false q3]; rfl
          have n1 : putB x y = true := by rw [putB, if_neg q0, hok]
          have n2 : putD x y = (x.1, x.2.1, x.2.2.take n ++ y.2.2.1) := by rw [putD, if_neg q0, if_pos hok, hn, Int.toNat_natCast]
          have e5 : IntKind.u64.wrap (y.2.1 - x.2.1.1.1) = (n : Int) + 1 := by rw [u64_in (by omega) (by omega)]; omega
          have e6 : IntKind.u64.wrap ((n : Int) + 1 - 1) = (n : Int) := by rw [u64_in (by omega) (by omega)]; omega
          obtain ⟨u, hsl⟩ := slice_front (P := Try.prog) (e := R85) (t := 34) (hh := n) (hiv := some (.int .u64 (n : Int))) hv20 (by kernel_rfl) (by decide) ⟨.u64, rfl⟩ (by omega)
          have ru := (hsl k (Fr.refl _)).2
          have iu : vin (· < k.size) u := vin_mono hp ((Rp.slice R85).rvin ru u (by simp))
          have vou := fun s0 kept bits (h : k.size ≤ s0) => vb_old (s0 := s0) (kept := kept) (bits := bits) (vin_mono (fun b hb => Nat.lt_of_lt_of_le hb h) iu)
          have ou := (Rp.slice R85).rone ru u (by simp)
          obtain ⟨au, cu, rfl, -, -⟩ := slice_form ru
          have hsk : ∀ h', Keeps k h' → aSlice Try.prog 34 (.slice av x.2.2.length cv) none (some (.int .u64 (n : Int))) none h' = some (.slice au (x.2.2.take n).length cu, h') := fun h' hk => (hsl h' (hk.fr hp)).1
          have bl : ∀ h : Hp, aBuildSlice Try.prog 178 2 #[(0, .slice au (x.2.2.take n).length cu), (1, .slice aw y.2.2.1.length cw)] h = some (.slice (some ⟨h.size, 0, none⟩) 2 2, h.push (some (.cells #[.slice au (x.2.2.take n).length cu, .slice aw y.2.2.1.length cw] true))) := fun h =>
            build_lit (h := h) tRowx178 [.slice au (x.2.2.take n).length cu, .slice aw y.2.2.1.length cw] rfl (by simp [Value.cells]) (by decide) (by decide)
          rw [n1, n2]
          simp (maxDischargeDepth := 16) only [z04, z08, z09, z0a, z0c, z0d, z0e, z0p, z0q, z0s, z0t, z0v, z0w, z0z, z11, z13, z16, z1e, z1g, z1h, z1v, z2b, z2o, z2w, z2x, z2z, z34, z36, z3a, z3b, z4a, z4e, z4f, z4g, z4h, z4i, z4m, z4n, z4o, z4p, z4q, z4r, z4s, z4t, z4u, z4w, z4x, z4y, z4z, z50, z51, z53, z5b, z7t, Nat.reduceEqDiff, Nat.reduceAdd, Nat.reduceSub, ↓reduceIte, Hp.cell, tFieldAx72x1, tPartx22, tZerox36, e0]
          rw [evalDraw_modes _ _ [(0, 0, 1), (2, 1, 3), (0, 0, 4), (0, 4, 12), (0, 12, 28), (2, 28, 60), (0, 63, 127), (0, 127, 255), (0, 255, 511), (2, 511, 1023), (2, 255, 1279), (2, 1279, 3327), (0, 3327, 7423), (0, 8191, 16383), (0, 16383, 32767), (0, 32767, 65535), (0, 65535, 131071), (1, 131071, 262143), (0, 262143, 524287), (0, 524287, 1048575), (0, 1048575, 2097151)] (by kernel_rfl)]
          simp (maxDischargeDepth := 16) only [z04, z09, z0a, z0c, z0d, z0e, z0t, z0v, z0w, z0x, z0z, z10, z12, z13, z16, z1e, z1l, z1p, z1r, z1v, z1y, z24, z2b, z2e, z2f, z2w, z2x, z34, z36, z38, z39, z3a, z3b, z3h, z3x, z3y, z3z, z41, z43, z44, z45, z46, z4a, z4e, z4f, z4g, z4h, z4i, z4j, z4k, z4l, z4m, z4n, z4o, z4p, z4q, z4r, z4s, z4u, z4v, z4z, z50, z51, z52, z53, z54, z59, z5a, z5b, z5e, z5f, z5j, z5l, z5n, z5t, z5u, z5x, z5y, z60, z61, z62, z63, z6a, z6d, z6g, z6h, z6j, z6t, z6v, z6x, z70, z71, z79, z7b, z7c, z7d, z7t, z7v, z7w, z7y, Nat.reduceEqDiff, Nat.reduceAdd, Nat.reduceSub, ↓reduceIte, Nat.reduceLT, Int.reduceLT, yielded, keepR, Hp.cell, Hp.row, hasBx33, tFieldAx24x0, tFieldAx33x0, tFieldAx36x1, tFieldAx72x1, tFieldAx72x2, tLenx34, tPartx22, tPartx34, tPartx36, vo1, vo2, vo3, e1, e2, e3, c33, w1]
          rw [evalDraw_modes _ _ [(0, 0, 1), (2, 1, 3), (0, 0, 4), (2, 4, 12), (0, 0, 16), (0, 16, 48), (0, 48, 112), (2, 112, 240), (0, 252, 508), (0, 508, 1020), (2, 1023, 2047), (0, 0, 2048), (2, 2048, 6144), (1, 8191, 16383), (4, 16383, 32767), (0, 32767, 65535), (4, 65535, 131071)] (by kernel_rfl)]
          simp (maxDischargeDepth := 16) only [z0t, z0v, z0w, z0x, z0z, z13, z16, z1e, z1i, z1k, z1l, z1v, z25, z2w, z2x, z34, z36, z38, z39, z3a, z3b, z3h, z44, z45, z46, z4a, z4e, z4f, z4g, z4h, z4i, z4j, z4k, z4l, z4m, z4n, z4o, z4p, z4q, z4r, z4s, z4u, z4v, z4z, z50, z51, z53, z54, z5a, z5b, z5f, z5j, z5l, z5n, z5u, z5w, z5x, z62, z6a, z6b, z6g, z6h, z6i, z6j, z6p, z6t, z6v, z6x, z6y, z6z, z70, z71, z74, z77, z79, z7a, z7b, z7c, z7d, z7e, z7v, z7w, z7y, z87, z8d, Nat.reduceEqDiff, Nat.reduceLeDiff, Nat.reduceAdd, ↓reduceIte, Nat.reduceDiv, Nat.reduceMod, Nat.reducePow, Nat.reduceLT, Int.reduceLT, keepR, Hp.cell, hasBx67, tFieldAx24x0, tFieldAx33x0, tFieldAx36x1, tFieldAx36x2, tFieldAx72x1, tFieldAx72x2, tPartx22, tPartx34, vo2, vo3, vou, e5, e6, hsk, bl]
          refine al_kd1 (run67 hI67 hI95 (p := p) (xs := x.2.2.take n) (ys := y.2.2.1) (by simp only [Hp.ro_push, Hp.size_push]; omega) (fun b hb => by have := hp b hb; simp only [Hp.size_push]; omega) ((Rp.slice R85).mono ru (fun _ h => h) id (Keeps.fr (h := k) (by repeat (first | assumption | exact Keeps.refl _ | refine Keeps.push ?_ _ | refine Keeps.set ?_ (by first | omega | (simp only [Hp.size_push, Hp.size_setB]; omega)) _)) hp)) ((Rp.slice R85).mono hw0 (fun _ h => h) id (Keeps.fr (h := k) (by repeat (first | assumption | exact Keeps.refl _ | refine Keeps.push ?_ _ | refine Keeps.set ?_ (by first | omega | (simp only [Hp.size_push, Hp.size_setB]; omega)) _)) hp)) (by rw [Hp.get_push, if_pos (by simp only [Hp.size_push])]) (by simp only [Hp.size_push]; omega) (by rw [List.length_take]; omega) (by rw [List.length_take]; omega) (by omega)) ?_ (by decide) ?_
          · rintro v k' hk ⟨hd, hs⟩
            refine vin_mono (fun b hb => ?_) ((Rp.slice R85).rvin hd v (by simp))
            simp only [Hp.size_push] at hb hs ⊢
            rcases hb with hb | hb
            · exact .inl (by have := hp b hb; omega)
            · exact .inr ⟨by omega, by omega⟩
          rintro v k4 hk4 hr4 ⟨hd, hs4⟩
          simp only [Hp.size_push, Hp.ro_push] at hs4 hr4
          have g0 := hk4.get k.size (by first | omega | (simp only [Hp.size_push, Hp.size_setB, Hp.ro_push, Hp.ro_setB]; omega))
          have g2 := hk4.get (k.size + 2) (by first | omega | (simp only [Hp.size_push, Hp.size_setB, Hp.ro_push, Hp.ro_setB]; omega))
          simp (maxDischargeDepth := 16) only [z34, z36, z38, z39, z3a, z4a, Nat.reduceEqDiff, Nat.reduceAdd, ↓reduceIte] at g0 g2
          have kk4 : Keeps k k4 := Keeps.trans (h := k) (by repeat (first | assumption | exact Keeps.refl _ | refine Keeps.push ?_ _ | refine Keeps.set ?_ (by first | omega | (simp only [Hp.size_push, Hp.size_setB]; omega)) _)) hk4
          have ov := (Rp.slice R85).rone hd v (by simp)
          have n0 : k.size < k4.size := by omega
          have n2 : k.size + 2 < k4.size := by omega
          have pr0 : (k4.ro ≤ k.size) = True := eq_true (by omega)
          have pr1 : ∀ j, (k4.ro ≤ k.size + j) = True := fun j => eq_true (by omega)
          obtain ⟨a9, c9, rfl, -, -⟩ := slice_form hd
          simp (maxDischargeDepth := 16) only [z05, z08, z09, z0d, z0e, z0o, z0p, z0q, z0s, z0t, z0u, z0v, z0w, z0z, z11, z16, z1e, z1f, z1v, z1w, z1x, z2o, z2q, z2w, z2x, z2y, z33, z35, z37, z3a, z3b, z3d, z3f, z3g, z3p, z3v, z3w, z3x, z3y, z3z, z41, z43, z44, z45, z46, z49, z4a, z4b, z4d, z4e, z4f, z4g, z4h, z4i, z4p, z4q, z4r, z4z, z50, z51, z52, z53, z5a, z5b, z5f, z5h, z5j, z5k, z5q, z5t, z5u, z66, z6a, z6h, z6i, z72, z74, z75, z7c, z7d, z8b, z8d, Nat.reduceEqDiff, Nat.reduceAdd, Nat.reduceSub, ↓reduceIte, Nat.reduceDiv, Nat.reduceMod, Nat.reducePow, keepR, Hp.row, Hp.wr, tFieldAx36x2, tPartx36, tSizex34, tSizex36, o1, ov, g0, g2, ne_f n0, ne_f0 n0, lt_t n0, lt_t0 n0, ne_f n2, ne_f0 n2, lt_t n2, lt_t0 n2, pr0, pr1]
          refine Al.done ⟨by simp only [Hp.size_setB]; omega, fun c hc => by rw [get_set_ne (by omega), get_set_ne (by omega), kk4.get c hc]⟩ (by simp only [Hp.ro_setB]; omega) ⟨_, rfl, R36_mk (x := (x.1, x.2.1, x.2.2.take n ++ y.2.2.1)) b1 b2 b3 (R25.mono hv1 (fun b hb => .inl hb) id (Fr.of fun c hc => by have := hp c hc; rw [get_set_ne (by omega), get_set_ne (by omega), kk4.get c this])) b4 b5 b6 b7 b8 b9 ((Rp.slice R85).mono hd (fun b hb => ?_) id (Fr.of fun c hc => ?_))⟩
          · simp only [Hp.size_setB, Hp.size_push] at hb ⊢
            rcases hb with hb | hb
            · exact .inl hb
            · exact .inr ⟨by omega, by omega⟩
          · simp only [Hp.size_push] at hc
            have hne : c ≠ k.size ∧ c ≠ k.size + 2 := by
              rcases hc with hc | hc
              · have := hp c hc; omega
              · omega
            rw [get_set_ne hne.2, get_set_ne hne.1]
theorem run32 {I : Intr} (hI : I 32 = none) (hI33 : I 33 = some g33) (hI67 : I 67 = none) (hI95 : I 95 = none) {N : Nat} {k : Hp} {cs ds : List Value} {x : T36} {y : T72} {p : Nat → Prop}
    (r : R36.r false p k cs x) (s : R72.r false p k ds y) (hp : ∀ b, p b → b < k.size) (hro : k.ro ≤ k.size) (hb : x.2.1.1.1 ≤ 4611686018427387904) (hl : x.2.2.length ≤ 900) (hl2 : y.2.2.1.length ≤ 900) (hN : 100 < N) :
    Al k (fun k' u => ∃ es, u = .tuple #[.agg es.toArray, .bool (putB x y)] ∧ R36.r false (· < k'.size) k' es (putD x y)) (evalV Try.prog I N (.fn 32) #[.agg cs.toArray, .agg ds.toArray] k) := by
  obtain ⟨v, k', e, hk, hr, es, rfl, h⟩ := run32p hI hI33 hI67 hI95 r s hp hro hb hl hl2 hN
  exact ⟨_, k', e, hk, hr, es, rfl, R36.mono h (fun b hb => by
    rcases hb with hb | hb
    · have := hp b hb; have := hk.size; omega
    · exact hb.2) id (Fr.refl _)⟩
end Go.Abs.B1
