/- Ships: messages in memory of their own; matches. -/
import Derived.Test.YtnlhfcipapbfmaaSh11
namespace Go.Abs.B1
open Go.Proofs
set_option maxRecDepth 10000
set_option maxHeartbeats 4000000
set_option linter.all false
def baseD (x : T33) : T33 := (x.1, x.2.1.take 20, x.2.2)
def msgD (y : T47) : T47 := (y.1, y.2.1, y.2.2.1, y.2.2.2.1, y.2.2.2.2.1, (y.2.2.2.2.2.1.take 9).map cutE, y.2.2.2.2.2.2.1, y.2.2.2.2.2.2.2.1, y.2.2.2.2.2.2.2.2.1, y.2.2.2.2.2.2.2.2.2.1, baseD y.2.2.2.2.2.2.2.2.2.2.1, y.2.2.2.2.2.2.2.2.2.2.2.1, [], y.2.2.2.2.2.2.2.2.2.2.2.2.2)
theorem run24 {I : Intr} (hI : I 24 = none) (hI53 : I 53 = none) (hI54 : I 54 = none) {N : Nat} {k : Hp} {cs : List Value} {y : T47} {p : Nat → Prop} (r : R47.r false p k cs y) (hp : ∀ b, p b → b < k.size) (hro : k.ro ≤ k.size) (hN : y.2.2.2.2.2.1.length + 2 < N) :
    Al k (fun k' v => ∃ ds, v = .agg ds.toArray ∧ R47.r true (fr k k') k' ds (msgD y)) (evalV Try.prog I N (.fn 24) #[.agg cs.toArray] k) := by
  obtain ⟨N, rfl⟩ : ∃ n, N = n + 1 := ⟨N - 1, by omega⟩
  have r0 := r
  obtain ⟨v1, v2, v3, rfl, b1, b2, b3, b4, b5, b6, hv1, b7, b8, b9, b10, b11, hv2, b12, b13, b14, b15, b16, b17, b18, hv3, b19⟩ := R47_inv r
  have i1 : vin (· < k.size) v1 := vin_mono hp (R34.rvin hv1 v1 (by simp))
  have i2 : vin (· < k.size) v2 := vin_mono hp (R25.rvin hv2 v2 (by simp))
  have o1 : oneC v1 = true := R34.rone hv1 v1 (by simp)
  have o2 : oneC v2 = true := R25.rone hv2 v2 (by simp)
  have o3 : oneC v3 = true := R43.rone hv3 v3 (by simp)
  have vo1 := fun s0 kept bits (h : k.size ≤ s0) => vb_old (s0 := s0) (kept := kept) (bits := bits) (vin_mono (fun b hb => Nat.lt_of_lt_of_le hb h) i1)
  have vo2 := fun s0 kept bits (h : k.size ≤ s0) => vb_old (s0 := s0) (kept := kept) (bits := bits) (vin_mono (fun b hb => Nat.lt_of_lt_of_le hb h) i2)
  rw [evalV_call (P := Try.prog) (intr := I) (f := 24) (m := 14) (rs := #[.cell 2 47]) hI Try.func24 rfl rfl rfl]
  simp (maxDischargeDepth := 16) only [z08, z09, z0d, z0e, z0p, z0q, z0s, z0t, z0v, z1g, z1h, z2o, z2z, z3b, z4a, z4e, z4g, z4h, z4i, z4p, z4q, z4r, z4s, z4t, z4u, z4w, z4x, z4y, z4z, z53, z7t, Nat.reduceSub, tZerox47]
  rw [evalDraw_modes _ _ [(0, 0, 1), (2, 1, 3), (2, 3, 7), (0, 0, 8), (2, 8, 24), (4, 31, 63), (0, 31, 95), (4, 127, 255), (0, 255, 511), (4, 511, 1023)] (by kernel_rfl)]
  simp (maxDischargeDepth := 16) only [z0t, z0v, z0w, z0x, z0z, z16, z1e, z1l, z1v, z2w, z2x, z34, z38, z39, z3a, z3b, z3h, z46, z4a, z4e, z4f, z4g, z4h, z4i, z4j, z4k, z4l, z4m, z4n, z4o, z4s, z4u, z4v, z50, z51, z53, z5a, z5j, z5l, z5u, z5x, z6a, z6h, z6t, z6v, z6x, z70, z71, z7b, z7c, z7d, Nat.reduceAdd, ↓reduceIte, keepR, Hp.cell, hasBx54, tFieldAx47x5, tPartx34, vo1]
  refine al_kd2 (run54 hI54 (v := v1) (p := p) (R34.mono hv1 (fun _ h => h) id ((view_keeps (by repeat (first | assumption | exact Keeps.refl _ | refine Keeps.push ?_ _ | refine Keeps.set ?_ (by first | omega | (simp only [Hp.size_push, Hp.size_setB]; omega)) _)) (by simp)).fr hp)) (fun b hb => by have := hp b hb; rw [view_size]; simp only [Hp.size_push]; omega) (by rw [view_ro, view_size]; exact Nat.le_refl _) (by omega) 9 (by decide)) ?_ (by decide) ?_
  · intro v k' hk ha
    exact vin_mono (fun b hb => .inr (by rw [view_size] at hb; exact hb)) ((Rp.slice R85).rvin ha.rp v (by simp))
  rintro v k1 m hk1 ha hm1 hm2 hm3 hm4
  obtain ⟨o, c, rfl⟩ := ha.form
  have ha' := ha.rp
  rw [view_size] at ha'
  have hs1 := hk1.size
  rw [view_size] at hs1
  simp (maxDischargeDepth := 16) only [z3a, z4a, z4c, Nat.reduceAdd] at hm2 hs1
  have gm0 := hm3 k.size (by first | omega | (simp only [Hp.size_push, Hp.size_setB, Hp.ro_push, Hp.ro_setB]; omega))
  have gm1 := hm3 (k.size + 1) (by first | omega | (simp only [Hp.size_push, Hp.size_setB, Hp.ro_push, Hp.ro_setB]; omega))
  simp (maxDischargeDepth := 16) only [z34, z38, z39, z4a, ↓reduceIte] at gm0 gm1
  have hkm : Keeps k m := keeps_of (k := (k.push _).push _) (by repeat (first | assumption | exact Keeps.refl _ | refine Keeps.push ?_ _ | refine Keeps.set ?_ (by first | omega | (simp only [Hp.size_push, Hp.size_setB]; omega)) _)) (by rw [hm1]; exact hs1) hm3
  simp only [Hp.size_push] at ha'
  simp (maxDischargeDepth := 16) only [z0t, z0v, z0x, z0z, z16, z1e, z1l, z1v, z2w, z2x, z3a, z3b, z3h, z3x, z3y, z3z, z40, z41, z42, z44, z45, z46, z4a, z4e, z4f, z4g, z4h, z4i, z4j, z4k, z4l, z4p, z4q, z4r, z4s, z4u, z4v, z4z, z50, z51, z53, z5a, z5f, z5j, z5l, z5u, z5x, z62, z6a, z6d, z6g, z6h, z6t, z6v, z6x, z7b, z7c, z7d, z89, z8b, z8d, Nat.reduceLeDiff, Nat.reduceAdd, Nat.reduceSub, ↓reduceIte, keepR, Hp.row, hasBx53, tFieldAx47x10, tPartx33, vo2, gm0]
  have hkv : ∀ bits kept, (∀ x ∈ kept, k.size ≤ x.2.1) → Keeps k (m.view bits kept) := fun bits kept h => keeps_view hkm h
  have hkeep : ∀ x ∈ keepS 2 (k.size + 2) k1.size [], k.size ≤ x.2.1 := fun x hx => by
    rcases keepS_mem hx with rfl | h
    · show k.size ≤ k.size + 2; omega
    · cases h
  refine al_kd1 (run53 hI53 (by omega) (p := p) (R33.mono (R33_mk (x := y.2.2.2.2.2.2.2.2.2.2.1) b10 b11 hv2 b12 b13 b14 b15 b16 b17) (fun _ h => h) id (hkm.fr hp)) (fun b hb => by have := hp b hb; have := hkm.size; omega) (by omega)) ?_ (by decide) ?_
  · rintro v k' hk ⟨ds, rfl, hd⟩
    exact vin_agg fun c hc => vin_mono (fun b hb => .inr hb) (R33.rvin hd c hc)
  rintro v m2 hk2 hm22 ⟨ds, rfl, hd⟩
  have hm23 : ∀ b, b < m.size → m2.get b = m.get b := hk2.get
  obtain ⟨w2, rfl, d1, d2, hw2, d3⟩ := R33_inv hd
  have hs2 := hk2.size
  obtain ⟨o9, c9, rfl⟩ : ∃ o n, w2 = .slice o (baseD y.2.2.2.2.2.2.2.2.2.2.1).2.1.length n := by obtain ⟨_, _, e, _⟩ := slice_form hw2; exact ⟨_, _, e⟩
  have gn0 : m2.get k.size = _ := (hm23 k.size (by omega)).trans gm0
  have gn1 : m2.get (k.size + 1) = _ := (hm23 (k.size + 1) (by omega)).trans gm1
  have q0 : (m2.size ≤ k.size) = False := by simp; omega
  have q1 : ∀ j, j < 2 → (m2.size ≤ k.size + j) = False := fun j hj => by simp; omega
  have p0 : (m2.ro ≤ k.size) = True := by simp; omega
  have p1 : ∀ j, (m2.ro ≤ k.size + j) = True := fun j => by simp; omega
  have p2 : ∀ j, j < 2 → k.size + j < m.size := fun j hj => by omega
  have p3 : k.size < m.size := by omega
  simp (maxDischargeDepth := 16) only [z05, z08, z09, z0d, z0e, z0o, z0p, z0q, z0s, z0t, z0u, z0v, z0z, z16, z1b, z1e, z1f, z1v, z1w, z1x, z2o, z2q, z2w, z2x, z2y, z33, z35, z37, z39, z3b, z3c, z3g, z3p, z3q, z3s, z3v, z3w, z3x, z3y, z3z, z41, z43, z44, z45, z46, z49, z4b, z4d, z4e, z4f, z4g, z4h, z4i, z4j, z4l, z4p, z4q, z4r, z4z, z50, z51, z53, z5a, z5f, z5j, z5k, z5t, z5u, z66, z6a, z6h, z72, z7c, z7d, z80, z81, z8b, z8d, Nat.reduceLeDiff, Nat.reduceAdd, Nat.reduceSub, ↓reduceIte, keepR, Hp.row, Hp.wr, tBuildOkx45, tFieldAx47x5, tFieldAx47x10, tFieldAx47x12, tPartx47, tSizex33, tSizex34, tSizex45, tSizex47, tZerox45, gn0, gn1, p0, p1]
  have f1 := Rp.fresh1 ha' fun h => hm4 h _ (fun b hb => ⟨hb.2, .inr (by simpa using hb.1)⟩)
  have f2 := R33.mono hd (p' := fun b => m.size ≤ b ∧ b < m2.size) (fun b hb => hb) id (Fr.refl _)
  have hkm2 : Keeps k m2 := keeps_of hkm (by omega) hm23
  obtain ⟨w2', e, -, -, hw2', -⟩ := R33_inv f2
  simp only [List.cons.injEq, true_and, and_true] at e
  subst e
  refine Al.done (by repeat (first | assumption | exact Keeps.refl _ | refine Keeps.push ?_ _ | refine Keeps.set ?_ (by first | omega | (simp only [Hp.size_push, Hp.size_setB]; omega)) _)) (by simp only [Hp.ro_setB]; rw [hm22, hm2]) ⟨_, rfl, R47_mk (x := msgD y) b1 b2 b3 b4 b5 b6 ((Rp.slice R85).mono f1 (fun b hb => ⟨by omega, by simp only [Hp.size_setB]; omega⟩) id ?_) b7 b8 b9 b10 b11 ((Rp.slice R61).mono hw2' (fun b hb => ⟨by omega, by simp only [Hp.size_setB]; omega⟩) id ?_) b12 b13 b14 b15 b16 b17 b18 (OwnS.nil.rp (fun _ h => h) (fun b h => by cases h)) b19⟩
  · refine Fr.of fun b hb => ?_
    have := hb.1
    have := hb.2
    simp only [Hp.get_setB, if_neg (show ¬ b = k.size by omega), if_neg (show ¬ b = k.size + 1 by omega)]
    exact hm23 b (by omega)
  · refine Fr.of fun b hb => ?_
    have := hb.1
    simp only [Hp.get_setB, if_neg (show ¬ b = k.size by omega), if_neg (show ¬ b = k.size + 1 by omega)]
end Go.Abs.B1
