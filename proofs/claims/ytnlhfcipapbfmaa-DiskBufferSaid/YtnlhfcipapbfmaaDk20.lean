/- The document's disk: Sync, Read. -/
import Derived.Test.YtnlhfcipapbfmaaDk19
namespace Go.Abs.B1
open Go.Proofs
set_option maxRecDepth 10000
set_option maxHeartbeats 4000000
set_option linter.all false
theorem downL_congr {f g : Nat → Bool} : ∀ (rs : List T167) (P : List (List Value)) (i : Nat), (∀ j, i ≤ j → j < i + rs.length → f j = g j) → downL f P rs i = downL g P rs i
  | [], P, i, h => rfl
  | r :: rs, P, i, h => by
    rw [downL, downL, h i (Nat.le_refl _) (by simp)]
    exact downL_congr rs _ (i + 1) fun j h1 h2 => h j (by omega) (by simp only [List.length_cons]; omega)
theorem restL_all {f : Nat → Bool} : ∀ (rs : List T167) (i : Nat), (∀ j, i ≤ j → j < i + rs.length → f j = true) → restL f rs i = []
  | [], i, h => rfl
  | r :: rs, i, h => by
    rw [restL, if_pos (h i (Nat.le_refl _) (by simp))]
    exact restL_all rs (i + 1) fun j h1 h2 => h j (by omega) (by simp only [List.length_cons]; omega)
theorem downD_all (E : DV) : downD E (List.replicate E.2.1.length true) = emptyS E (fun _ => true) := by
  unfold downD emptyS
  rw [downL_congr (g := fun _ => true) E.2.1 E.1 0 (fun j _ h => by rw [List.getElem?_replicate, if_pos (by omega)]; rfl), restL_all E.2.1 0 (fun j _ h => by rw [List.getElem?_replicate, if_pos (by omega)]; rfl)]
/-- The model's cells, with their bounds. -/
theorem md_bounds {D : DV} (wf : WF D) {o : Bool} {p : Nat → Prop} {k : Hp} {v1 v2 : Value} (h1 : R110.r o p k [v1] D.1) (h2 : R111.r o p k [v2] D.2.1) : R113.r o p k [v1, v2, .int .i64 D.2.2.1, .int .i64 D.2.2.2.1, .bool D.2.2.2.2.1, .int .i64 D.2.2.2.2.2] D :=
  R113_mk (x := D) h1 h2 wf.fuse wf.flaw wf.ops
section
variable {I : Intr} {N : Nat} {k : Hp} {S : Nat → Prop} {b : Nat} {D : DV} {p : Nat → Prop}
theorem run_rSync (J : IRf I) (hN : 60 < N) (hro : k.ro ≤ k.size) {cs : List Value} (r : R113.r false p k cs D) (hp : ∀ c, p c → c < k.size) (wf : WF D) :
    Al k (fun k' u => ∃ cs', u = .tuple #[.agg cs'.toArray, .int .i64 (syncS D).2] ∧ R113.r false (grow p k k') k' cs' (syncS D).1) (evalV Try.prog I N (.fn 80) #[.agg cs.toArray] k) := by
  obtain ⟨N, rfl⟩ : ∃ n, N = n + 1 := ⟨N - 1, by omega⟩
  have r00 := r
  obtain ⟨v1, v2, rfl, hr1, hr2, b1, b2, b3⟩ := R113_inv r
  have ow1 := (R110).rone hr1 v1 (List.mem_singleton.2 rfl)
  have ow2 := (R111).rone hr2 v2 (List.mem_singleton.2 rfl)
  obtain ⟨a1, c1, hv1, -, -⟩ := slice_form hr1
  have r0 : (k.ro ≤ k.size) = True := by simp [hro]
  have r1 : ∀ j, (k.ro ≤ k.size + j) = True := fun j => by simp; omega
  have wE := actS_wf 0 true wf
  obtain ⟨eE1, eE2⟩ := actS_keeps D 0 true
  rw [evalV_call (P := Try.prog) (intr := I) (f := 80) (m := 20) (rs := #[.cell 2 113, .tmp 3]) J.Sync Try.func80 rfl rfl rfl]
  simp (maxDischargeDepth := 16) only [z08, z09, z0d, z0e, z0p, z0q, z0s, z0t, z0v, z0w, z0x, z0z, z11, z1e, z1g, z1h, z1l, z1v, z2o, z2x, z2z, z34, z38, z39, z3b, z3h, z3x, z3y, z3z, z41, z43, z46, z4a, z4e, z4f, z4g, z4h, z4i, z4j, z4k, z4l, z4p, z4q, z4r, z4s, z4t, z4u, z4v, z4w, z4x, z4y, z4z, z53, Nat.reduceAdd, Nat.reduceSub, ↓reduceIte, Hp.row, hasBx107, tPartx113, tZerox113]
  refine ex_any (Al k _) (Al.ex (run_rAct (D := D) (v1 := v1) (v2 := v2) J (N := N) (by omega) (by simp only [Hp.size_push, Hp.ro_push]; omega) hv1 ow2 (i := 0) (w := true))) ?_
  rintro _ k1 ⟨hk1, hr1', rfl⟩
  simp only [Hp.ro_push] at hr1'
  have s1 := hk1.size
  simp only [Hp.size_push] at s1
  have g0 := hk1.get k.size (by simp only [Hp.size_push]; omega)
  have g1 := hk1.get (k.size + 1) (by simp only [Hp.size_push]; omega)
  simp (maxDischargeDepth := 16) only [z34, z38, z39, z4a, ↓reduceIte] at g0 g1
  have n0 : k.size < k1.size := by omega
  have n1 : k.size + 1 < k1.size := by omega
  have q0 : (k1.ro ≤ k.size) = True := by rw [hr1']; exact r0
  have q1 : (k1.ro ≤ k.size + 1) = True := by rw [hr1']; exact r1 1
  have kk1 : Keeps k k1 := Keeps.trans (by repeat (first | assumption | exact Keeps.refl _ | refine Keeps.push ?_ _ | refine Keeps.set ?_ (by first | omega | (simp only [Hp.size_push, Hp.size_setB]; omega)) _)) hk1
  have hmd : ∀ h' : Hp, Keeps k h' → R113.r false (grow p k h') h' [v1, v2, .int .i64 (actS D 0 true).1.2.2.1, .int .i64 (actS D 0 true).1.2.2.2.1, .bool (actS D 0 true).1.2.2.2.2.1, .int .i64 (actS D 0 true).1.2.2.2.2.2] (actS D 0 true).1 := fun h' hk => md_bounds wE (by rw [eE1]; exact R110.mono hr1 (fun c hc => .inl hc) id (hk.fr hp)) (by rw [eE2]; exact R111.mono hr2 (fun c hc => .inl hc) id (hk.fr hp))
  by_cases he : (actS D 0 true).2 = 0
  · have es : syncS D = (emptyS (actS D 0 true).1 (fun _ => true), 0) := by unfold syncS; rw [if_pos he]
    rw [es]
    obtain ⟨a2, c2, rfl, -, -⟩ := slice_form hr2
    simp (maxDischargeDepth := 16) only [z08, z09, z0a, z0b, z0d, z0e, z0p, z0q, z0s, z0t, z0u, z0v, z0w, z0z, z10, z11, z13, z1a, z1f, z1w, z1x, z2b, z2o, z2t, z2y, z3b, z3p, z3q, z3v, z3w, z44, z45, z46, z49, z4e, z4f, z4g, z4h, z4i, z4m, z4n, z4o, z4p, z4q, z4r, z53, z5a, z5f, z72, z7t, Nat.reduceAdd, ↓reduceIte, Hp.wr, tSizex113, mdV, g0, ne_f n0, ne_f0 n0, lt_t n0, lt_t0 n0, ne_f n1, ne_f0 n1, lt_t n1, lt_t0 n1, q0, he, ow1, ow2]
    refine evalDraw_heap (Al k _) fun k2 hk2 => ?_
    have s2 : k2.size = k1.size := by rw [hk2]; simp
    have rr2 : k2.ro = k.ro := by rw [hk2]; simpa using hr1'
    have kk2 : Keeps k k2 := by rw [hk2]; exact (by repeat (first | assumption | exact Keeps.refl _ | refine Keeps.push ?_ _ | refine Keeps.set ?_ (by first | omega | (simp only [Hp.size_push, Hp.size_setB]; omega)) _))
    have z0 : k2.get k.size = some (.cells #[v1, .slice a2 D.2.1.length c2, .int .i64 (actS D 0 true).1.2.2.1, .int .i64 (actS D 0 true).1.2.2.2.1, .bool (actS D 0 true).1.2.2.2.2.1, .int .i64 (actS D 0 true).1.2.2.2.2.2] true) := by rw [hk2, get_set_self]
    have z1 : k2.get (k.size + 1) = some (.cells #[.slice none 0 0, .slice none 0 0, .int .i64 0, .int .i64 0, .bool false, .int .i64 0] true) := by rw [hk2, get_set_ne (by omega)]; exact g1
    clear hk2
    have m0 : k.size < k2.size := by omega
    have vo : ∀ u, vin p u → ∀ kept bits, vokB (allow k2.size kept bits) u = true := fun u hu kept bits => vb_old (vin_mono (fun b hb => by have := hp b hb; have := kk2.size; omega) hu)
    have vo1 := vo v1 (R110.rvin hr1 v1 (List.mem_singleton.2 rfl))
    have vo2 := vo _ (R111.rvin hr2 _ (List.mem_singleton.2 rfl))
    rw [evalDraw_modes _ _ [(3, 0, 1), (0, 0, 2), (2, 2, 6), (0, 6, 14), (5, 2, 30), (4, 31, 63), (4, 63, 127)] (by kernel_rfl)]
    simp (maxDischargeDepth := 16) only [z0t, z0v, z0x, z0z, z16, z1e, z1l, z1p, z1r, z1v, z2w, z2x, z3b, z3h, z3x, z3y, z3z, z41, z43, z44, z45, z46, z4e, z4f, z4g, z4h, z4i, z4j, z4k, z4l, z4m, z4n, z4o, z4p, z4q, z4r, z4s, z4u, z4v, z4z, z50, z51, z53, z5a, z5f, z5j, z5l, z5u, z5x, z62, z63, z6a, z6d, z6g, z6h, z6t, z6v, z6x, z70, z71, z8c, z8e, z8i, z8k, z8l, z8m, z8n, z8o, z8p, z8q, Nat.reduceEqDiff, Nat.reduceAdd, Nat.reduceSub, ↓reduceIte, Nat.reduceDiv, Nat.reduceMod, keepR, Hp.cell, Hp.row, hasBx45, tFieldAx113x1, tLenx111, tPartx111, tPartx113, z0, ne_f m0, ne_f0 m0, lt_t m0, lt_t0 m0, vo1, vo2]
    refine ex_kdh (Al k _) (Al.ex (run_rAll (k := k2.setB k.size none) (n := D.2.1.length) J (by simp only [Hp.size_setB, Hp.ro_setB]; omega) (by have := wf.rows; omega) (by have := wf.rows; omega))) (fun v k' h => by simpa using h.1.size) (fun v k' h => by
      obtain ⟨q, o, h1, h2⟩ := h.2.2
      obtain ⟨c, e⟩ := o.form_some
      rw [e]
      exact vin_slice.2 (.inr ⟨by simpa using h1, h2⟩)) (by decide) ?_
    rintro v3 k3 ⟨hk3, hr3, q3, o3, hq3, hq3'⟩
    simp only [Hp.size_setB, Hp.ro_setB] at hr3 hq3
    have s3 := hk3.size
    simp only [Hp.size_setB] at s3
    have g31 : k3.get (k.size + 1) = _ := (hk3.get _ (by simp only [Hp.size_setB]; omega)).trans ((get_set_ne (by omega)).trans z1)
    have n30 : k.size < k3.size := by omega
    have n31 : k.size + 1 < k3.size := by omega
    have kk3 : Keeps k k3 := ⟨by omega, fun c hc => by rw [hk3.get c (by simp only [Hp.size_setB]; omega), get_set_ne (by omega)]; exact kk2.get c hc⟩
    have p0 : (k3.ro ≤ k.size) = True := by rw [hr3, rr2]; exact r0
    have p1 : (k3.ro ≤ k.size + 1) = True := by rw [hr3, rr2]; exact r1 1
    simp (maxDischargeDepth := 16) only [z0t, z0v, z0x, z1l, z3b, z3h, z4e, z4f, z4g, z4h, z4i, z4j, z4k, z4l, z4s, z4u, z4v, z8d, z8s, z8t, Nat.reduceAdd, ↓reduceIte, hasBx108, z0, ne_f m0, ne_f0 m0, lt_t m0, lt_t0 m0]
    have kk3' : ∀ x, Keeps k (k3.setB k.size x) := fun x => (by repeat (first | assumption | exact Keeps.refl _ | refine Keeps.push ?_ _ | refine Keeps.set ?_ (by first | omega | (simp only [Hp.size_push, Hp.size_setB]; omega)) _))
    refine ex_kd1 (Al k _) (Al.ex (run_rDown (N := N) J (by omega) (by simp only [Hp.size_setB, Hp.ro_setB]; omega) (hmd _ (kk3' _)) (fun c hc => by
      rcases hc with hc | hc
      · have := hp c hc; simp only [Hp.size_setB]; omega
      · exact hc.2) wE (ownFr (p := grow p k (k3.setB k.size (some (.cells #[v1, .slice a2 D.2.1.length c2, .int .i64 (actS D 0 true).1.2.2.1, .int .i64 (actS D 0 true).1.2.2.2.1, .bool (actS D 0 true).1.2.2.2.2.1, .int .i64 (actS D 0 true).1.2.2.2.2.2] true)))) (o3.mono (by simp) (fun c hc => by cases hc; exact get_set_ne (by omega))) (fun c hc => by cases hc; exact .inr ⟨by omega, by simpa using hq3'⟩)))) ?_ ?_ (by decide) ?_
    · rintro v k' ⟨h, -⟩; exact h.size
    · rintro v k' ⟨h, -, cs', rfl, hd⟩
      exact vin_agg fun c hc => vin_mono (fun b hb => .inr hb) (R113.rvin hd c hc)
    rintro _ k4 ⟨hk4, hr4, cs4, rfl, hd4⟩
    have eD : downD (actS D 0 true).1 (List.replicate D.2.1.length true) = emptyS (actS D 0 true).1 (fun _ => true) := by rw [← eE2]; exact downD_all _
    rw [eD] at hd4
    obtain ⟨u1, u2, rfl, hu1, hu2, -⟩ := R113_inv hd4
    have ou1 := (R110).rone hu1 u1 (List.mem_singleton.2 rfl)
    have ou2 := (R111).rone hu2 u2 (List.mem_singleton.2 rfl)
    have s4 := hk4.size
    simp only [Hp.size_setB] at s4
    simp only [Hp.ro_setB] at hr4
    have g40 := hk4.get k.size (by simp only [Hp.size_setB]; omega)
    rw [get_set_self] at g40
    have g41 : k4.get (k.size + 1) = _ := (hk4.get _ (by simp only [Hp.size_setB]; omega)).trans ((get_set_ne (by omega)).trans g31)
    have n40 : k.size < k4.size := by omega
    have n41 : k.size + 1 < k4.size := by omega
    have t0 : (k4.ro ≤ k.size) = True := by rw [hr4]; exact p0
    have t1 : (k4.ro ≤ k.size + 1) = True := by rw [hr4]; exact p1
    simp (maxDischargeDepth := 16) only [z05, z08, z09, z0d, z0e, z0o, z0p, z0q, z0s, z0t, z0u, z0v, z0z, z10, z11, z1e, z1f, z1v, z1w, z1x, z2o, z2x, z2y, z33, z35, z37, z39, z3b, z3d, z3f, z3g, z3p, z3q, z3v, z3w, z3x, z3y, z3z, z41, z43, z44, z45, z46, z49, z4b, z4d, z4e, z4f, z4g, z4h, z4i, z4p, z4q, z4r, z4z, z52, z53, z5f, z5k, z5t, z66, z72, z8d, Nat.reduceAdd, Nat.reduceSub, ↓reduceIte, keepR, Hp.row, Hp.wr, tPartx113, tSizex113, g40, g41, ne_f n40, ne_f0 n40, lt_t n40, lt_t0 n40, ne_f n41, ne_f0 n41, lt_t n41, lt_t0 n41, t0, t1, ou1, ou2]
    refine Al.done ⟨by simp only [Hp.size_setB]; omega, fun c hc => ?_⟩ (by simp only [Hp.ro_setB]; omega) ⟨_, rfl, ?_⟩
    · rw [get_set_ne (by omega), get_set_ne (by omega), hk4.get c (by simp only [Hp.size_setB]; omega), get_set_ne (by omega)]; exact kk3.get c hc
    · exact R113.mono hd4 (fun c hc => .inr ⟨by have := hc.1; simp only [Hp.size_setB] at this; omega, by simp only [Hp.size_setB]; exact hc.2⟩) id (Fr.of fun c hc => by have := hc.1; simp only [Hp.size_setB] at this; rw [get_set_ne (by omega), get_set_ne (by omega)])
  · have es : syncS D = actS D 0 true := by unfold syncS; rw [if_neg he]
    rw [es]
    simp (maxDischargeDepth := 16) only [z04, z05, z08, z09, z0a, z0c, z0d, z0e, z0o, z0p, z0q, z0s, z0t, z0u, z0v, z0w, z0z, z10, z11, z13, z1a, z1e, z1f, z1v, z1w, z1x, z2b, z2o, z2t, z2x, z2y, z33, z35, z37, z39, z3b, z3d, z3f, z3g, z3p, z3q, z3v, z3w, z3x, z3y, z3z, z41, z43, z44, z45, z46, z49, z4d, z4e, z4f, z4g, z4h, z4i, z4m, z4n, z4o, z4p, z4q, z4r, z4z, z52, z53, z5b, z5f, z72, Nat.reduceAdd, Nat.reduceSub, ↓reduceIte, Hp.row, Hp.wr, tPartx113, tSizex113, mdV, g0, g1, ne_f n0, ne_f0 n0, lt_t n0, lt_t0 n0, ne_f n1, ne_f0 n1, lt_t n1, lt_t0 n1, q0, q1, he, ow1, ow2]
    exact Al.done (by repeat (first | assumption | exact Keeps.refl _ | refine Keeps.push ?_ _ | refine Keeps.set ?_ (by first | omega | (simp only [Hp.size_push, Hp.size_setB]; omega)) _)) (by simp only [Hp.ro_setB]; omega) ⟨_, rfl, hmd _ (by repeat (first | assumption | exact Keeps.refl _ | refine Keeps.push ?_ _ | refine Keeps.set ?_ (by first | omega | (simp only [Hp.size_push, Hp.size_setB]; omega)) _))⟩
end
end Go.Abs.B1
