/- The document's disk: Read, Write. -/
import Derived.Test.YtnlhfcipapbfmaaDk20
namespace Go.Abs.B1
open Go.Proofs
set_option maxRecDepth 10000
set_option maxHeartbeats 4000000
set_option linter.all false
section
variable {I : Intr} {N : Nat} {k : Hp} {S : Nat → Prop} {b : Nat} {D : DV} {p : Nat → Prop}
theorem run_rRead (J : IRf I) (hN : 60 < N) (hro : k.ro ≤ k.size) {cs : List Value} (r : R113.r false p k cs D) (hp : ∀ c, p c → c < k.size) (wf : WF D) {i : Int} :
    Al k (fun k' u => ∃ cs', u = .tuple #[.agg cs'.toArray, .agg (readS D i).2.1.toArray, .int .i64 (readS D i).2.2] ∧ R113.r false (grow p k k') k' cs' (readS D i).1 ∧ flatOk K98 (readS D i).2.1) (evalV Try.prog I N (.fn 79) #[.agg cs.toArray, .int .i64 i] k) := by
  obtain ⟨N, rfl⟩ : ∃ n, N = n + 1 := ⟨N - 1, by omega⟩
  obtain ⟨v1, v2, rfl, hr1, hr2, b1, b2, b3⟩ := R113_inv r
  have ow1 := (R110).rone hr1 v1 (List.mem_singleton.2 rfl)
  have ow2 := (R111).rone hr2 v2 (List.mem_singleton.2 rfl)
  obtain ⟨a1, c1, hv1, -, -⟩ := slice_form hr1
  have r0 : (k.ro ≤ k.size) = True := by simp [hro]
  have r1 : ∀ j, (k.ro ≤ k.size + j) = True := fun j => by simp; omega
  have wE := actS_wf i false wf
  obtain ⟨eE1, eE2⟩ := actS_keeps D i false
  have hzb : zeroB.length = 64 := rfl
  rw [evalV_call (P := Try.prog) (intr := I) (f := 79) (m := 23) (rs := #[.cell 4 113, .cell 5 98, .tmp 6]) J.Read Try.func79 rfl rfl rfl]
  simp (maxDischargeDepth := 16) only [z08, z09, z0d, z0e, z0p, z0q, z0s, z0t, z0v, z0w, z0x, z0z, z10, z11, z1e, z1g, z1h, z1l, z1v, z2o, z2x, z2z, z34, z38, z39, z3a, z3b, z3h, z3x, z3y, z3z, z41, z43, z46, z4a, z4e, z4f, z4g, z4h, z4i, z4j, z4k, z4l, z4p, z4q, z4r, z4s, z4t, z4u, z4v, z4w, z4x, z4y, z4z, z53, Nat.reduceEqDiff, Nat.reduceAdd, Nat.reduceSub, ↓reduceIte, Hp.row, hasBx107, tPartx113, tZerox98, tZerox113]
  refine ex_any (Al k _) (Al.ex (run_rAct (D := D) (v1 := v1) (v2 := v2) J (N := N) (by omega) (by simp only [Hp.size_push, Hp.ro_push]; omega) hv1 ow2 (i := i) (w := false))) ?_
  rintro _ k1 ⟨hk1, hr1', rfl⟩
  simp only [Hp.ro_push] at hr1'
  have s1 := hk1.size
  simp only [Hp.size_push] at s1
  have g0 := hk1.get k.size (by simp only [Hp.size_push]; omega)
  have g1 := hk1.get (k.size + 1) (by simp only [Hp.size_push]; omega)
  have g2 := hk1.get (k.size + 2) (by simp only [Hp.size_push]; omega)
  simp (maxDischargeDepth := 16) only [z34, z36, z38, z39, z3a, z4a, Nat.reduceEqDiff, Nat.reduceAdd, ↓reduceIte] at g0 g1 g2
  have n0 : k.size < k1.size := by omega
  have n1 : k.size + 1 < k1.size := by omega
  have n2 : k.size + 2 < k1.size := by omega
  have q0 : (k1.ro ≤ k.size) = True := by rw [hr1']; exact r0
  have q1 : ∀ j, (k1.ro ≤ k.size + j) = True := fun j => by rw [hr1']; exact r1 j
  have kk1 : Keeps k k1 := Keeps.trans (by repeat (first | assumption | exact Keeps.refl _ | refine Keeps.push ?_ _ | refine Keeps.set ?_ (by first | omega | (simp only [Hp.size_push, Hp.size_setB]; omega)) _)) hk1
  have hmd : ∀ h' : Hp, Keeps k h' → R113.r false (grow p k h') h' [v1, v2, .int .i64 (actS D i false).1.2.2.1, .int .i64 (actS D i false).1.2.2.2.1, .bool (actS D i false).1.2.2.2.2.1, .int .i64 (actS D i false).1.2.2.2.2.2] (actS D i false).1 := fun h' hk => md_bounds wE (by rw [eE1]; exact R110.mono hr1 (fun c hc => .inl hc) id (hk.fr hp)) (by rw [eE2]; exact R111.mono hr2 (fun c hc => .inl hc) id (hk.fr hp))
  by_cases he : (actS D i false).2 = 0
  · obtain ⟨n, rfl, hn⟩ := actS_ok he
    have es : readS D n = ((actS D n false).1, showS D n, 0) := by unfold readS; rw [if_pos he, he]
    rw [es]
    simp (maxDischargeDepth := 16) only [z04, z08, z09, z0a, z0c, z0d, z0e, z0p, z0q, z0s, z0t, z0u, z0v, z0w, z0z, z10, z11, z13, z1a, z1f, z1w, z1x, z2c, z2o, z2t, z2y, z3b, z3p, z3q, z3v, z3w, z44, z45, z46, z49, z4e, z4f, z4g, z4h, z4i, z4m, z4n, z4o, z4p, z4q, z4r, z53, z5a, z5c, z5f, z72, z7t, Nat.reduceAdd, ↓reduceIte, Hp.wr, tSizex113, mdV, g0, ne_f n0, ne_f0 n0, lt_t n0, lt_t0 n0, ne_f n1, ne_f0 n1, lt_t n1, lt_t0 n1, ne_f n2, ne_f0 n2, lt_t n2, lt_t0 n2, q0, he, ow1, ow2]
    refine evalDraw_heap (Al k _) fun k2 hk2 => ?_
    have s2 : k2.size = k1.size := by rw [hk2]; simp
    have rr2 : k2.ro = k.ro := by rw [hk2]; simpa using hr1'
    have kk2 : Keeps k k2 := by rw [hk2]; exact (by repeat (first | assumption | exact Keeps.refl _ | refine Keeps.push ?_ _ | refine Keeps.set ?_ (by first | omega | (simp only [Hp.size_push, Hp.size_setB]; omega)) _))
    have z0 : k2.get k.size = some (.cells #[v1, v2, .int .i64 (actS D n false).1.2.2.1, .int .i64 (actS D n false).1.2.2.2.1, .bool (actS D n false).1.2.2.2.2.1, .int .i64 (actS D n false).1.2.2.2.2.2] true) := by rw [hk2, get_set_self]
    have z1 : k2.get (k.size + 1) = some (.cells #[.slice none 0 0, .slice none 0 0, .int .i64 0, .int .i64 0, .bool false, .int .i64 0] true) := by rw [hk2, get_set_ne (by omega)]; exact g1
    have z2 : k2.get (k.size + 2) = some (.cells zeroB.toArray true) := by rw [hk2, get_set_ne (by omega)]; exact g2
    clear hk2
    have m0 : k.size < k2.size := by omega
    have m1 : k.size + 1 < k2.size := by omega
    have m2 : k.size + 2 < k2.size := by omega
    have vo : ∀ u, vin p u → ∀ kept bits, vokB (allow k2.size kept bits) u = true := fun u hu kept bits => vb_old (vin_mono (fun b hb => by have := hp b hb; have := kk2.size; omega) hu)
    have vo1 := vo v1 (R110.rvin hr1 v1 (List.mem_singleton.2 rfl))
    have vo2 := vo v2 (R111.rvin hr2 v2 (List.mem_singleton.2 rfl))
    rw [evalDraw_modes _ _ [(3, 0, 1), (2, 0, 2), (0, 0, 4), (5, 3, 14), (4, 15, 31), (4, 31, 63), (0, 63, 127)] (by kernel_rfl)]
    simp (maxDischargeDepth := 16) only [z0t, z0v, z0x, z0z, z10, z1e, z1l, z1v, z2x, z3b, z3h, z3x, z3y, z3z, z41, z43, z44, z45, z46, z4e, z4f, z4g, z4h, z4i, z4j, z4k, z4l, z4p, z4q, z4r, z4s, z4u, z4v, z4z, z53, z5f, z5j, z5l, z5u, z5x, z62, z63, z6d, z6g, z6t, z6v, z6x, z70, z71, z8c, z8e, z8i, z8k, z8l, z8m, z8n, z8o, z8p, z8q, Nat.reduceEqDiff, Nat.reduceAdd, Nat.reduceSub, ↓reduceIte, Nat.reduceDiv, Nat.reduceMod, keepR, Hp.row, hasBx47, tPartx113, z0, ne_f m0, ne_f0 m0, lt_t m0, lt_t0 m0, vo1, vo2]
    have sh : showS (actS D n false).1 n = showS D n := showS_act D n n false
    have kk2' : Keeps k (k2.setB k.size none) := (by repeat (first | assumption | exact Keeps.refl _ | refine Keeps.push ?_ _ | refine Keeps.set ?_ (by first | omega | (simp only [Hp.size_push, Hp.size_setB]; omega)) _))
    refine ex_kdh (Al k _) (Al.ex (run_rShows (N := N) (D := (actS D n false).1) J (by omega) (by simp only [Hp.size_setB, Hp.ro_setB]; omega) (hmd (k2.setB k.size none) kk2') (fun c hc => by
      rcases hc with hc | hc
      · have := hp c hc; simp only [Hp.size_setB]; omega
      · exact hc.2) wE (by rw [eE1]; exact hn))) (fun v k' h => by simpa using h.1.size) (fun v k' h => by rw [h.2.2.1]; exact vin_agg (vin_flatOk h.2.2.2)) (by decide) ?_
    rintro _ k3 ⟨hk3, hr3, rfl, hf3⟩
    rw [sh] at hf3 ⊢
    simp only [Hp.ro_setB] at hr3
    have s3 := hk3.size
    simp only [Hp.size_setB] at s3
    have h64 : (showS D n).length = 64 := hf3.len
    have g31 : k3.get (k.size + 1) = _ := (hk3.get _ (by simp only [Hp.size_setB]; omega)).trans ((get_set_ne (by omega)).trans z1)
    have g32 : k3.get (k.size + 2) = _ := (hk3.get _ (by simp only [Hp.size_setB]; omega)).trans ((get_set_ne (by omega)).trans z2)
    have n30 : k.size < k3.size := by omega
    have n31 : k.size + 1 < k3.size := by omega
    have n32 : k.size + 2 < k3.size := by omega
    have p1 : ∀ j, (k3.ro ≤ k.size + j) = True := fun j => by rw [hr3, rr2]; exact r1 j
    have spz : splice zeroB.toArray 0 (showS D n) = (showS D n).toArray := splice_full (by simp [zeroB, h64])
    have tk : (showS D n).take 64 = showS D n := List.take_of_length_le (by omega)
    have hz64 : 64 ≤ zeroB.length := by rw [hzb]; omega
    have h64' : 64 ≤ (showS D n).length := by omega
    simp (maxDischargeDepth := 16) only [z05, z0d, z0e, z0o, z0t, z0u, z0v, z0w, z11, z1f, z1w, z1x, z2o, z2x, z2y, z33, z35, z36, z37, z39, z3b, z3f, z3g, z3p, z3q, z3v, z3w, z3x, z3y, z3z, z41, z43, z44, z45, z46, z49, z4b, z4d, z4e, z4f, z4g, z4h, z4i, z4p, z4q, z4r, z4z, z52, z53, z5f, z5j, z5k, z5t, z5u, z62, z66, z72, z8d, z8s, z8t, Nat.reduceEqDiff, Nat.reduceAdd, Nat.reduceSub, ↓reduceIte, keepR, Hp.row, Hp.wr, tPartx98, tPartx113, tSizex98, tSizex113, z0, ne_f m0, ne_f0 m0, lt_t m0, lt_t0 m0, g31, g32, ne_f n31, ne_f0 n31, lt_t n31, lt_t0 n31, ne_f n32, ne_f0 n32, lt_t n32, lt_t0 n32, p1, ow1, ow2, h64, flat_all1 hf3, spz, hzb, tk, finR_three]
    refine Al.done ⟨by simp only [Hp.size_setB]; omega, fun c hc => ?_⟩ (by simp only [Hp.ro_setB]; omega) ⟨_, rfl, ?_, hf3⟩
    · rw [get_set_ne (by omega), get_set_ne (by omega), get_set_ne (by omega), hk3.get c (by simp only [Hp.size_setB]; omega), get_set_ne (by omega)]; exact kk2.get c hc
    · refine hmd _ ⟨by simp only [Hp.size_setB]; omega, fun c hc => ?_⟩
      rw [get_set_ne (by omega), get_set_ne (by omega), get_set_ne (by omega), hk3.get c (by simp only [Hp.size_setB]; omega), get_set_ne (by omega)]; exact kk2.get c hc
  · have es : readS D i = ((actS D i false).1, zeroB, (actS D i false).2) := by unfold readS; rw [if_neg he]
    rw [es]
    simp (maxDischargeDepth := 16) only [z05, z08, z09, z0a, z0b, z0d, z0e, z0f, z0o, z0p, z0q, z0s, z0t, z0u, z0v, z0w, z0z, z10, z11, z13, z1a, z1b, z1e, z1f, z1v, z1w, z1x, z2c, z2o, z2t, z2x, z2y, z33, z35, z36, z37, z39, z3b, z3f, z3g, z3p, z3q, z3v, z3w, z3x, z3y, z3z, z41, z43, z44, z45, z46, z49, z4d, z4e, z4f, z4g, z4h, z4i, z4j, z4l, z4m, z4n, z4o, z4p, z4q, z4r, z4z, z50, z51, z52, z53, z5b, z5d, z5f, z72, z80, z81, Nat.reduceEqDiff, Nat.reduceAdd, Nat.reduceSub, ↓reduceIte, Hp.row, Hp.wr, tBuildOkx98, tPartx98, tPartx113, tSizex98, tSizex113, tZerox98, mdV, g0, g1, g2, ne_f n0, ne_f0 n0, lt_t n0, lt_t0 n0, ne_f n1, ne_f0 n1, lt_t n1, lt_t0 n1, ne_f n2, ne_f0 n2, lt_t n2, lt_t0 n2, q0, q1, he, ow1, ow2, finR_three]
    exact Al.done (by repeat (first | assumption | exact Keeps.refl _ | refine Keeps.push ?_ _ | refine Keeps.set ?_ (by first | omega | (simp only [Hp.size_push, Hp.size_setB]; omega)) _)) (by simp only [Hp.ro_setB]; omega) ⟨_, rfl, hmd _ (by repeat (first | assumption | exact Keeps.refl _ | refine Keeps.push ?_ _ | refine Keeps.set ?_ (by first | omega | (simp only [Hp.size_push, Hp.size_setB]; omega)) _)), flat_zeroB⟩
end
end Go.Abs.B1
