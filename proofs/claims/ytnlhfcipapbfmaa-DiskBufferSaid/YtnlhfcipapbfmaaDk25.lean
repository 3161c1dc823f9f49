/- What a deed does by the document. -/
import Derived.Test.YtnlhfcipapbfmaaDk24
namespace Go.Abs.B1
open Go.Proofs
set_option maxRecDepth 10000
set_option maxHeartbeats 4000000
set_option linter.all false
theorem vin_tup {p : Nat → Prop} {ds : Array Value} (h : ∀ c ∈ ds, vin p c) : vin p (.tuple ds) := by
  unfold vin at h ⊢
  rw [vb_tuple, Array.all_eq_true_iff_forall_mem]
  exact h
theorem kindN_range (x : T94) : 0 ≤ kindN x ∧ kindN x < 10 := by
  have h : 0 ≤ IntKind.u64.wrap x.1 := by
    show 0 ≤ x.1 % _
    exact Int.emod_nonneg _ (by decide)
  unfold kindN
  exact ⟨Int.tmod_nonneg _ h, Int.tmod_lt_of_pos _ (by decide)⟩
section
variable {I : Intr} {N : Nat} {k : Hp} {S : Nat → Prop} {b : Nat} {D : DV} {p : Nat → Prop}
theorem run_models (J : IRf I) (L : ILw I) (hN : 120 < N) (hro : k.ro ≤ k.size) {cm : List Value} (rm : R113.r false p k cm D) (wf : WF D) {cs : List Value} {x : T94} (r : R94.r false p k cs x) (hp : ∀ c, p c → c < k.size) :
    Al k (fun k' u => ∃ cs', u = .tuple #[.agg cs'.toArray, .agg (deedS D x).2.1.toArray, .int .i64 (deedS D x).2.2] ∧ R113.r false (grow p k k') k' cs' (deedS D x).1 ∧ flatOk K98 (deedS D x).2.1) (evalV Try.prog I N (.fn 42) #[.agg cm.toArray, .agg cs.toArray] k) := by
  obtain ⟨N, rfl⟩ : ∃ n, N = n + 1 := ⟨N - 1, by omega⟩
  have r00 := r
  have rm00 := rm
  obtain ⟨v1, rfl, b1, b2, b3, b4, r5⟩ := R94_inv r
  have o1 := (Rp.slice Rp.bool).rone r5 v1 (List.mem_singleton.2 rfl)
  obtain ⟨m1, m2, rfl, hr1, hr2, f1, f2, f3⟩ := R113_inv rm
  have om1 := (R110).rone hr1 m1 (List.mem_singleton.2 rfl)
  have om2 := (R111).rone hr2 m2 (List.mem_singleton.2 rfl)
  have r0 : (k.ro ≤ k.size) = True := by simp [hro]
  have rj : ∀ j, (k.ro ≤ k.size + j) = True := fun j => by simp; omega
  have hzb : zeroB.length = 64 := rfl
  have hz64 : 64 ≤ zeroB.length := by decide
  have oz : zeroB.all oneC = true := rfl
  have tkz : zeroB.take 64 = zeroB := rfl
  have spzz : splice zeroB.toArray 0 zeroB = zeroB.toArray := splice_full (by simp)
  rw [evalV_call (P := Try.prog) (intr := I) (f := 42) (m := 68) (rs := #[.cell 4 113, .cell 5 98, .tmp 6]) L.models Try.func42 rfl rfl rfl]
  simp (maxDischargeDepth := 16) only [z08, z09, z0d, z0e, z0p, z0q, z0s, z0t, z0v, z0w, z0x, z0z, z11, z1e, z1g, z1h, z1l, z1v, z2o, z2x, z2z, z34, z36, z3a, z3b, z3h, z3x, z3y, z3z, z41, z43, z46, z4a, z4e, z4f, z4g, z4h, z4i, z4j, z4k, z4l, z4p, z4q, z4r, z4s, z4t, z4u, z4v, z4w, z4x, z4y, z4z, z53, Nat.reduceEqDiff, Nat.reduceAdd, Nat.reduceSub, ↓reduceIte, Hp.row, hasBx39, tPartx94, tZerox98, tZerox113]
  refine ex_any (Al k _) (Al.ex (run_kind L (N := N) (p := p) (by omega) (R94.mono r00 (fun _ h => h) id (Keeps.fr (h := k) (by repeat (first | assumption | exact Keeps.refl _ | refine Keeps.push ?_ _ | refine Keeps.set ?_ (by first | omega | (simp only [Hp.size_push, Hp.size_setB]; omega)) _)) hp)))) ?_
  rintro _ k1 ⟨hk1, hro1, rfl⟩
  simp only [Hp.ro_push] at hro1
  have s1 := hk1.size
  simp only [Hp.size_push] at s1
  have kk : Keeps k k1 := Keeps.trans (by repeat (first | assumption | exact Keeps.refl _ | refine Keeps.push ?_ _ | refine Keeps.set ?_ (by first | omega | (simp only [Hp.size_push, Hp.size_setB]; omega)) _)) hk1
  have g0 := hk1.get k.size (by simp only [Hp.size_push]; omega)
  have g1 := hk1.get (k.size + 1) (by simp only [Hp.size_push]; omega)
  have g2 := hk1.get (k.size + 2) (by simp only [Hp.size_push]; omega)
  have g3 := hk1.get (k.size + 3) (by simp only [Hp.size_push]; omega)
  have g4 := hk1.get (k.size + 4) (by simp only [Hp.size_push]; omega)
  simp (maxDischargeDepth := 16) only [z34, z36, z38, z39, z3a, z4a, Nat.reduceEqDiff, Nat.reduceAdd, ↓reduceIte] at g0 g1 g2 g3 g4
  have g3 : k1.get (k.size + 3) = some (.cells zeroB.toArray true) := g3
  have g4 : k1.get (k.size + 4) = some (.cells zeroB.toArray true) := g4
  have n0 : k.size < k1.size := by omega
  have n1 : k.size + 1 < k1.size := by omega
  have n2 : k.size + 2 < k1.size := by omega
  have n3 : k.size + 3 < k1.size := by omega
  have n4 : k.size + 4 < k1.size := by omega
  have q0 : (k1.ro ≤ k.size) = True := by rw [hro1]; exact r0
  have q1 : ∀ j, (k1.ro ≤ k.size + j) = True := fun j => by rw [hro1]; exact rj j
  have rd1 := R94.mono r00 (fun _ h => h) id (kk.fr hp)
  have rm1 := R113.mono rm00 (fun _ h => h) id (kk.fr hp)
  have hp1 : ∀ c, p c → c < k1.size := fun c hc => by have := hp c hc; omega
  clear hk1
  simp (maxDischargeDepth := 16) only [z08, z09, z0a, z0d, z0e, z0p, z0q, z0s, z0t, z0v, z0w, z0z, z10, z11, z13, z2b, z3b, z4e, z4f, z4g, z4h, z4i, evalC_block]
  have hkr := kindN_range x
  by_cases h5 : kindN x = 5
  · have eS : deedS D x = readS D x.2.1 := by unfold deedS; rw [if_pos h5]
    rw [eS]
    simp (maxDischargeDepth := 16) only [z08, z0b, z0q, z0s, z0t, z0v, z0x, z0z, z16, z1e, z1l, z1v, z2w, z2x, z3b, z3h, z3x, z3y, z3z, z41, z43, z46, z4e, z4f, z4g, z4h, z4i, z4j, z4k, z4l, z4m, z4n, z4o, z4p, z4q, z4r, z4s, z4u, z4v, z4z, z50, z51, z53, z5a, Nat.reduceAdd, Nat.reduceSub, ↓reduceIte, Hp.cell, Hp.row, hasBx79, tFieldAx94x1, tPartx3, tPartx113, eq_true h5, g0, g1, ne_f n0, ne_f0 n0, lt_t n0, lt_t0 n0, ne_f n1, ne_f0 n1, lt_t n1, lt_t0 n1]
    refine ex_any (Al k _) (Al.ex (run_rRead (N := N) J (by omega) (by omega) rm1 hp1 wf)) ?_
    rintro _ k2 ⟨hk2, hr2', c2, rfl, hd2, hf⟩
    obtain ⟨u1, u2, rfl, hu1, hu2, -⟩ := R113_inv hd2
    have ou1 := (R110).rone hu1 u1 (List.mem_singleton.2 rfl)
    have ou2 := (R111).rone hu2 u2 (List.mem_singleton.2 rfl)
    have s2 := hk2.size
    have hk2k : Keeps k k2 := kk.trans hk2
    have hr2k : k2.ro = k.ro := by omega
    have y0 := (hk2.get _ n0).trans g0
    have y2 := (hk2.get _ n2).trans g2
    have y3 := (hk2.get _ n3).trans g3
    have y4 := (hk2.get _ n4).trans g4
    have m0 : k.size < k2.size := by omega
    have m4 : k.size + 4 < k2.size := by omega
    have p0 : (k2.ro ≤ k.size) = True := by rw [hr2k]; exact r0
    have p4 : (k2.ro ≤ k.size + 4) = True := by rw [hr2k]; exact rj 4
    have al : (readS D x.2.1).2.1.length = 64 := hf.len
    have al64 : 64 ≤ (readS D x.2.1).2.1.length := by omega
    have atk : (readS D x.2.1).2.1.take 64 = (readS D x.2.1).2.1 := List.take_of_length_le (by omega)
    have asp : splice zeroB.toArray 0 (readS D x.2.1).2.1 = (readS D x.2.1).2.1.toArray := splice_full (by rw [al]; rfl)
    simp (maxDischargeDepth := 16) only [z09, z0d, z0e, z0h, z0p, z0q, z0s, z0t, z0u, z0v, z0z, z10, z11, z1a, z1f, z1w, z1x, z2o, z2t, z2y, z35, z37, z3b, z3p, z3q, z3v, z3w, z44, z45, z46, z49, z4d, z4e, z4f, z4g, z4h, z4i, z4m, z4n, z4o, z4p, z4q, z4r, z53, z5f, z72, z7t, Nat.reduceEqDiff, Nat.reduceAdd, ↓reduceIte, Hp.wr, tSizex98, tSizex113, y0, y4, ne_f m0, ne_f0 m0, lt_t m0, lt_t0 m0, ne_f m4, ne_f0 m4, lt_t m4, lt_t0 m4, p0, p4, ou1, ou2, al, asp, flat_all1 hf, hz64]
    refine evalDraw_heap (Al k _) fun h hh => ?_
    have sh : h.size = k2.size := by rw [hh]; simp only [Hp.size_setB]
    have rh : h.ro = k.ro := by rw [hh]; simp only [Hp.ro_setB]; exact hr2k
    have gh : ∀ c, c ≠ k.size → c ≠ k.size + 4 → h.get c = k2.get c := fun c _ _ => by rw [hh, get_set_ne (by omega), get_set_ne (by omega)]
    have kh : Keeps k h := ⟨by omega, fun c hc => by rw [gh c (by omega) (by omega)]; exact hk2k.get c hc⟩
    have w0 : h.get k.size = some (.cells #[u1, u2, .int .i64 (readS D x.2.1).1.2.2.1, .int .i64 (readS D x.2.1).1.2.2.2.1, .bool (readS D x.2.1).1.2.2.2.2.1, .int .i64 (readS D x.2.1).1.2.2.2.2.2] true) := by rw [hh, get_set_ne (by omega), get_set_self]
    have w2 := (gh (k.size + 2) (by omega) (by omega)).trans y2
    have w3 := (gh (k.size + 3) (by omega) (by omega)).trans y3
    have w4 : h.get (k.size + 4) = some (.cells ((readS D x.2.1).2.1).toArray true) := by rw [hh, get_set_self]
    have hR : R113.r false (grow p k1 h) h [u1, u2, .int .i64 (readS D x.2.1).1.2.2.1, .int .i64 (readS D x.2.1).1.2.2.2.1, .bool (readS D x.2.1).1.2.2.2.2.1, .int .i64 (readS D x.2.1).1.2.2.2.2.2] (readS D x.2.1).1 := R113.mono hd2 (fun c hc => by
      rcases hc with hc | hc
      · exact .inl hc
      · exact .inr ⟨by omega, by omega⟩) id (Fr.of fun c hc => by
      rcases hc with hc | hc
      · have := hp c hc; exact gh c (by omega) (by omega)
      · exact gh c (by omega) (by omega))
    clear hh
    rw [evalDraw_modes _ _ [(2, 0, 1), (3, 0, 2), (0, 0, 4), (5, 8, 9), (4, 11, 27), (0, 31, 63)] (by kernel_rfl)]
    have m0 : k.size < h.size := by omega
    have m2 : k.size + 2 < h.size := by omega
    have m3 : k.size + 3 < h.size := by omega
    have m4 : k.size + 4 < h.size := by omega
    have vo : ∀ c ∈ [u1, u2], ∀ kept bits, vokB (allow h.size kept bits) c = true := fun c hc kept bits => vb_old (vin_mono (fun b hb => by
      rcases hb with hb | hb
      · have := hp b hb; omega
      · exact hb.2) (R113.rvin hR c (by simp at hc; rcases hc with rfl | rfl <;> simp)))
    have vo1 := vo u1 (by simp)
    have vo2 := vo u2 (by simp)
    have e0 : (h.ro ≤ k.size) = True := by rw [rh]; exact r0
    have ej : ∀ j, (h.ro ≤ k.size + j) = True := fun j => by rw [rh]; exact rj j
    have bl : ((readS D x.2.1).2.1).length = 64 := hf.len
    have bl64 : 64 ≤ ((readS D x.2.1).2.1).length := by omega
    have btk : ((readS D x.2.1).2.1).take 64 = (readS D x.2.1).2.1 := List.take_of_length_le (by omega)
    have bsp : splice zeroB.toArray 0 ((readS D x.2.1).2.1) = ((readS D x.2.1).2.1).toArray := splice_full (by rw [bl]; rfl)
    have vaf := fun p => all_flat (p := p) hf
    simp (maxDischargeDepth := 16) only [z05, z0d, z0e, z0o, z0t, z0u, z0v, z0z, z10, z11, z1e, z1f, z1v, z1w, z1x, z2o, z2x, z2y, z33, z35, z36, z3b, z3f, z3g, z3p, z3q, z3v, z3w, z3x, z3y, z3z, z41, z43, z44, z45, z46, z49, z4b, z4d, z4e, z4f, z4g, z4h, z4i, z4p, z4q, z4r, z4z, z52, z53, z5f, z5j, z5k, z5l, z5t, z5u, z5x, z62, z63, z66, z6d, z6g, z6t, z6v, z6x, z70, z71, z72, z8c, z8d, z8e, z8i, z8j, z8k, z8l, z8m, z8n, z8o, z8p, z8q, z8s, z8t, Nat.reduceEqDiff, Nat.reduceAdd, Nat.reduceSub, ↓reduceIte, Nat.reduceDiv, Nat.reduceMod, keepR, Hp.row, Hp.wr, tPartx98, tPartx113, tSizex98, tSizex113, w0, w2, w3, w4, ne_f m0, ne_f0 m0, lt_t m0, lt_t0 m0, ne_f m2, ne_f0 m2, lt_t m2, lt_t0 m2, ne_f m3, ne_f0 m3, lt_t m3, lt_t0 m3, ne_f m4, ne_f0 m4, lt_t m4, lt_t0 m4, btk, bl, bsp, vo1, vo2, ej, ou1, ou2, hz64, flat_all1 hf, vaf, finR_three]
    refine Al.done ⟨by simp only [Hp.size_setB]; omega, fun c hc => by rw [get_set_ne (by omega), get_set_ne (by omega), get_set_ne (by omega), get_set_ne (by omega)]; exact kh.get c hc⟩ (by simp only [Hp.ro_setB]; exact rh) ⟨_, rfl, R113.mono hR (fun c hc => ?_) id (Fr.of fun c hc => ?_), hf⟩
    · rcases hc with hc | hc
      · exact .inl hc
      · exact .inr ⟨by omega, by simp only [Hp.size_setB]; exact hc.2⟩
    · rcases hc with hc | hc
      · have := hp c hc; rw [get_set_ne (by omega), get_set_ne (by omega), get_set_ne (by omega), get_set_ne (by omega)]
      · rw [get_set_ne (by omega), get_set_ne (by omega), get_set_ne (by omega), get_set_ne (by omega)]
  by_cases h6 : kindN x = 6
  · have eS : deedS D x = ((syncS D).1, zeroB, (syncS D).2) := by unfold deedS; rw [if_neg h5, if_pos h6]
    rw [eS]
    have hf := flat_zeroB
    simp (maxDischargeDepth := 16) only [z08, z09, z0a, z0b, z0c, z0d, z0e, z0p, z0q, z0s, z0t, z0v, z0w, z0x, z0z, z10, z11, z13, z1e, z1l, z1v, z2b, z2x, z3b, z3h, z3x, z3y, z3z, z41, z43, z46, z4e, z4f, z4g, z4h, z4i, z4j, z4k, z4l, z4p, z4q, z4r, z4s, z4u, z4v, z4z, z53, z5a, z5b, Nat.reduceAdd, Nat.reduceSub, ↓reduceIte, Hp.row, hasBx80, tPartx113, h5, eq_true h6, g0, ne_f n0, ne_f0 n0, lt_t n0, lt_t0 n0]
    refine ex_any (Al k _) (Al.ex (run_rSync (N := N) J (by omega) (by omega) rm1 hp1 wf)) ?_
    rintro _ k2 ⟨hk2, hr2', c2, rfl, hd2⟩
    obtain ⟨u1, u2, rfl, hu1, hu2, -⟩ := R113_inv hd2
    have ou1 := (R110).rone hu1 u1 (List.mem_singleton.2 rfl)
    have ou2 := (R111).rone hu2 u2 (List.mem_singleton.2 rfl)
    have s2 := hk2.size
    have hk2k : Keeps k k2 := kk.trans hk2
    have hr2k : k2.ro = k.ro := by omega
    have y0 := (hk2.get _ n0).trans g0
    have y2 := (hk2.get _ n2).trans g2
    have y3 := (hk2.get _ n3).trans g3
    have y4 := (hk2.get _ n4).trans g4
    have m0 : k.size < k2.size := by omega
    have m4 : k.size + 4 < k2.size := by omega
    have p0 : (k2.ro ≤ k.size) = True := by rw [hr2k]; exact r0
    have p4 : (k2.ro ≤ k.size + 4) = True := by rw [hr2k]; exact rj 4
    simp (maxDischargeDepth := 16) only [z09, z0d, z0e, z0h, z0p, z0q, z0s, z0t, z0u, z0v, z0z, z10, z11, z1a, z1f, z1w, z1x, z2o, z2t, z2y, z3b, z3p, z3q, z3v, z3w, z44, z45, z46, z49, z4e, z4f, z4g, z4h, z4i, z4m, z4n, z4o, z4p, z4q, z4r, z53, z5f, z72, z7t, Nat.reduceAdd, ↓reduceIte, Hp.wr, tSizex113, y0, ne_f m0, ne_f0 m0, lt_t m0, lt_t0 m0, p0, ou1, ou2]
    refine evalDraw_heap (Al k _) fun h hh => ?_
    have sh : h.size = k2.size := by rw [hh]; simp only [Hp.size_setB]
    have rh : h.ro = k.ro := by rw [hh]; simp only [Hp.ro_setB]; exact hr2k
    have gh : ∀ c, c ≠ k.size → h.get c = k2.get c := fun c _ => by rw [hh, get_set_ne (by omega)]
    have kh : Keeps k h := ⟨by omega, fun c hc => by rw [gh c (by omega)]; exact hk2k.get c hc⟩
    have w0 : h.get k.size = some (.cells #[u1, u2, .int .i64 (syncS D).1.2.2.1, .int .i64 (syncS D).1.2.2.2.1, .bool (syncS D).1.2.2.2.2.1, .int .i64 (syncS D).1.2.2.2.2.2] true) := by rw [hh, get_set_self]
    have w2 := (gh (k.size + 2) (by omega)).trans y2
    have w3 := (gh (k.size + 3) (by omega)).trans y3
    have w4 : h.get (k.size + 4) = some (.cells (zeroB).toArray true) := (gh (k.size + 4) (by omega)).trans y4
    have hR : R113.r false (grow p k1 h) h [u1, u2, .int .i64 (syncS D).1.2.2.1, .int .i64 (syncS D).1.2.2.2.1, .bool (syncS D).1.2.2.2.2.1, .int .i64 (syncS D).1.2.2.2.2.2] (syncS D).1 := R113.mono hd2 (fun c hc => by
      rcases hc with hc | hc
      · exact .inl hc
      · exact .inr ⟨by omega, by omega⟩) id (Fr.of fun c hc => by
      rcases hc with hc | hc
      · have := hp c hc; exact gh c (by omega)
      · exact gh c (by omega))
    clear hh
    rw [evalDraw_modes _ _ [(2, 0, 1), (3, 0, 2), (0, 0, 4), (5, 8, 9), (4, 11, 27), (0, 31, 63)] (by kernel_rfl)]
    have m0 : k.size < h.size := by omega
    have m2 : k.size + 2 < h.size := by omega
    have m3 : k.size + 3 < h.size := by omega
    have m4 : k.size + 4 < h.size := by omega
    have vo : ∀ c ∈ [u1, u2], ∀ kept bits, vokB (allow h.size kept bits) c = true := fun c hc kept bits => vb_old (vin_mono (fun b hb => by
      rcases hb with hb | hb
      · have := hp b hb; omega
      · exact hb.2) (R113.rvin hR c (by simp at hc; rcases hc with rfl | rfl <;> simp)))
    have vo1 := vo u1 (by simp)
    have vo2 := vo u2 (by simp)
    have e0 : (h.ro ≤ k.size) = True := by rw [rh]; exact r0
    have ej : ∀ j, (h.ro ≤ k.size + j) = True := fun j => by rw [rh]; exact rj j
    have bl : (zeroB).length = 64 := hf.len
    have bl64 : 64 ≤ (zeroB).length := by omega
    have btk : (zeroB).take 64 = zeroB := List.take_of_length_le (by omega)
    have bsp : splice zeroB.toArray 0 (zeroB) = (zeroB).toArray := splice_full (by rw [bl]; rfl)
    have vaf := fun p => all_flat (p := p) hf
    simp (maxDischargeDepth := 16) only [z05, z0d, z0e, z0o, z0t, z0u, z0v, z0z, z10, z11, z1e, z1f, z1v, z1w, z1x, z2o, z2x, z2y, z33, z35, z36, z3b, z3f, z3g, z3p, z3q, z3v, z3w, z3x, z3y, z3z, z41, z43, z44, z45, z46, z49, z4b, z4d, z4e, z4f, z4g, z4h, z4i, z4p, z4q, z4r, z4z, z52, z53, z5f, z5j, z5k, z5l, z5t, z5u, z5x, z62, z63, z66, z6d, z6g, z6t, z6v, z6x, z70, z71, z72, z8c, z8d, z8e, z8i, z8j, z8k, z8l, z8m, z8n, z8o, z8p, z8q, z8s, z8t, Nat.reduceEqDiff, Nat.reduceAdd, Nat.reduceSub, ↓reduceIte, Nat.reduceDiv, Nat.reduceMod, keepR, Hp.row, Hp.wr, tPartx98, tPartx113, tSizex98, tSizex113, w0, w2, w3, w4, ne_f m0, ne_f0 m0, lt_t m0, lt_t0 m0, ne_f m2, ne_f0 m2, lt_t m2, lt_t0 m2, ne_f m3, ne_f0 m3, lt_t m3, lt_t0 m3, ne_f m4, ne_f0 m4, lt_t m4, lt_t0 m4, btk, bl, bsp, vo1, vo2, ej, ou1, ou2, flat_all1 hf, vaf, finR_three]
    refine Al.done ⟨by simp only [Hp.size_setB]; omega, fun c hc => by rw [get_set_ne (by omega), get_set_ne (by omega), get_set_ne (by omega), get_set_ne (by omega)]; exact kh.get c hc⟩ (by simp only [Hp.ro_setB]; exact rh) ⟨_, rfl, R113.mono hR (fun c hc => ?_) id (Fr.of fun c hc => ?_), hf⟩
    · rcases hc with hc | hc
      · exact .inl hc
      · exact .inr ⟨by omega, by simp only [Hp.size_setB]; exact hc.2⟩
    · rcases hc with hc | hc
      · have := hp c hc; rw [get_set_ne (by omega), get_set_ne (by omega), get_set_ne (by omega), get_set_ne (by omega)]
      · rw [get_set_ne (by omega), get_set_ne (by omega), get_set_ne (by omega), get_set_ne (by omega)]
  by_cases h9 : kindN x = 9
  · have vok : ∀ c, vin p c → ∀ kept bits, vokB (allow k1.size kept bits) c = true := fun c hc kept bits => vb_old (vin_mono (fun b hb => hp1 b hb) hc)
    have v1k := vok m1 (R113.rvin rm00 m1 (by simp))
    have v2k := vok m2 (R113.rvin rm00 m2 (by simp))
    have v3k := vok v1 (R94.rvin r00 v1 (by simp))
    have eS : deedS D x = (crashS D (x.2.2.2.2.take 30), zeroB, 0) := by unfold deedS; rw [if_neg h5, if_neg h6, if_neg (by omega), if_neg (by omega), if_pos h9]
    rw [eS]
    have hf := flat_zeroB
    simp (maxDischargeDepth := 16) only [z08, z09, z0a, z0b, z0c, z0d, z0e, z0p, z0q, z0s, z0t, z0v, z0w, z0z, z10, z11, z13, z2b, z3b, z4e, z4f, z4g, z4h, z4i, z5a, z5b, z7t, h5, h6, eq_true h9]
    rw [evalDraw_modes _ _ [(3, 0, 1), (2, 0, 2), (5, 3, 6), (4, 7, 15), (4, 15, 31)] (by kernel_rfl)]
    simp (maxDischargeDepth := 16) only [z0t, z0v, z0x, z0z, z1e, z1l, z1v, z2x, z3b, z3h, z3x, z3y, z3z, z41, z43, z44, z45, z46, z4e, z4f, z4g, z4h, z4i, z4j, z4k, z4l, z4p, z4q, z4r, z4s, z4u, z4v, z4z, z53, z5f, z5l, z5x, z62, z63, z6d, z6g, z6t, z6v, z6x, z70, z71, z8c, z8e, z8i, z8k, z8l, z8m, z8n, z8o, z8p, z8q, Nat.reduceEqDiff, Nat.reduceAdd, Nat.reduceSub, ↓reduceIte, Nat.reduceDiv, Nat.reduceMod, keepR, Hp.row, hasBx74, tPartx94, tPartx113, g0, g1, ne_f n0, ne_f0 n0, lt_t n0, lt_t0 n0, ne_f n1, ne_f0 n1, lt_t n1, lt_t0 n1, v1k, v2k, v3k]
    have kn : Keeps k (k1.setB k.size none) := ⟨by simp only [Hp.size_setB]; omega, fun c hc => by rw [get_set_ne (by omega)]; exact kk.get c hc⟩
    refine ex_kdh (Al k _) (Al.ex (run_keep L (N := N) (k := k1.setB k.size none) (p := p) (by omega) (by simp only [Hp.size_setB, Hp.ro_setB]; omega) (R94.mono r00 (fun _ h => h) id (kn.fr hp)) (fun c hc => by have := hp c hc; simp only [Hp.size_setB]; omega))) (fun v k' h => by simpa using h.1.size) (fun v k' h => by
      obtain ⟨-, -, q, o, h2⟩ := h
      refine vin_mono (fun b hb => ?_) ((Rp.slice Rp.bool).rvin o.rp v (by simp))
      subst hb
      exact .inr ⟨by have := h2 b rfl; simpa using this, o.lt⟩) (by decide) ?_
    rintro u3 k3 ⟨hk3, hr3, q, ok, hq⟩
    simp only [Hp.size_setB, Hp.ro_setB] at hr3 hq
    have s3 := hk3.size
    simp only [Hp.size_setB] at s3
    have l30 : k.size < k3.size := by omega
    simp (maxDischargeDepth := 16) only [z0t, z0v, z0x, z1l, z3b, z3h, z4e, z4f, z4g, z4h, z4i, z4j, z4k, z4l, z4s, z4u, z4v, z8d, z8s, z8t, Nat.reduceAdd, ↓reduceIte, hasBx81, g0, ne_f n0, ne_f0 n0, lt_t n0, lt_t0 n0]
    have kk3 : ∀ x, Keeps k (k3.setB k.size x) := fun x => ⟨by simp only [Hp.size_setB]; omega, fun c hc => by rw [get_set_ne (by omega), hk3.get c (by simp only [Hp.size_setB]; omega), get_set_ne (by omega)]; exact kk.get c hc⟩
    have gk3 : ∀ x, (k3.setB k.size x).size = k3.size := fun x => by simp only [Hp.size_setB]
    refine ex_kd1 (Al k _) (Al.ex (run_rCrash (N := N) (p := fun c => p c ∨ k1.size ≤ c ∧ c < k3.size) (ks := x.2.2.2.2.take 30) J (by omega) (by simp only [Hp.size_setB, Hp.ro_setB]; omega) (R113.mono rm00 (fun c hc => .inl hc) id ((kk3 _).fr hp)) (fun c hc => by
      rw [gk3]
      rcases hc with hc | hc
      · have := hp c hc; omega
      · exact hc.2) wf (ownFr (ok.mono (by simp only [Hp.size_setB]; omega) (fun c hc => by have := hq c hc; rw [get_set_ne (by omega)])) (fun c hc => by subst hc; exact .inr ⟨hq c rfl, ok.lt⟩)))) ?_ ?_ (by decide) ?_
    · rintro v k' ⟨h, -⟩; exact h.size
    · rintro v k' ⟨h, -, cs', rfl, hd⟩
      exact vin_agg fun c hc => vin_mono (fun b hb => .inr hb) (R113.rvin hd c hc)
    rintro _ k2 ⟨hk2, hr2', c2, rfl, hd2⟩
    simp only [Hp.ro_setB] at hr2'
    obtain ⟨u1, u2, rfl, hu1, hu2, -⟩ := R113_inv hd2
    have ou1 := (R110).rone hu1 u1 (List.mem_singleton.2 rfl)
    have ou2 := (R111).rone hu2 u2 (List.mem_singleton.2 rfl)
    have s2 := hk2.size
    rw [gk3] at s2
    have hk2k : Keeps k k2 := (kk3 _).trans hk2
    have hr2k : k2.ro = k.ro := by omega
    have y0 := (hk2.get k.size (by rw [gk3]; exact l30)).trans get_set_self
    have mid : ∀ j, j < 5 → j ≠ 0 → k2.get (k.size + j) = k1.get (k.size + j) := fun j h1 h2 => by rw [hk2.get _ (by rw [gk3]; omega), get_set_ne (by omega), hk3.get _ (by simp only [Hp.size_setB]; omega), get_set_ne (by omega)]
    have y2 := (mid 2 (by omega) (by omega)).trans g2
    have y3 := (mid 3 (by omega) (by omega)).trans g3
    have y4 := (mid 4 (by omega) (by omega)).trans g4
    have m0 : k.size < k2.size := by omega
    have p0 : (k2.ro ≤ k.size) = True := by rw [hr2k]; exact r0
    replace hd2 : R113.r false (grow p k1 k2) k2 [u1, u2, .int .i64 (crashS D (x.2.2.2.2.take 30)).2.2.1, .int .i64 (crashS D (x.2.2.2.2.take 30)).2.2.2.1, .bool (crashS D (x.2.2.2.2.take 30)).2.2.2.2.1, .int .i64 (crashS D (x.2.2.2.2.take 30)).2.2.2.2.2] (crashS D (x.2.2.2.2.take 30)) := R113.mono hd2 (fun c hc => .inr ⟨by have := hc.1; rw [gk3] at this; omega, hc.2⟩) id (Fr.refl _)
    simp (maxDischargeDepth := 16) only [z09, z0d, z0e, z0h, z0t, z0u, z0v, z1f, z1w, z1x, z2o, z2y, z3b, z3p, z3q, z3v, z3w, z44, z45, z46, z49, z4b, z4e, z4f, z4g, z4h, z4i, z4p, z4q, z4r, z53, z5f, z5k, z5t, z66, z72, z7t, z8d, Nat.reduceAdd, ↓reduceIte, keepR, Hp.wr, tSizex113, y0, ne_f m0, ne_f0 m0, lt_t m0, lt_t0 m0, p0, ou1, ou2]
    refine evalDraw_heap (Al k _) fun h hh => ?_
    have sh : h.size = k2.size := by rw [hh]; simp only [Hp.size_setB]
    have rh : h.ro = k.ro := by rw [hh]; simp only [Hp.ro_setB]; exact hr2k
    have gh : ∀ c, c ≠ k.size → h.get c = k2.get c := fun c _ => by rw [hh, get_set_ne (by omega)]
    have kh : Keeps k h := ⟨by omega, fun c hc => by rw [gh c (by omega)]; exact hk2k.get c hc⟩
    have w0 : h.get k.size = some (.cells #[u1, u2, .int .i64 (crashS D (x.2.2.2.2.take 30)).2.2.1, .int .i64 (crashS D (x.2.2.2.2.take 30)).2.2.2.1, .bool (crashS D (x.2.2.2.2.take 30)).2.2.2.2.1, .int .i64 (crashS D (x.2.2.2.2.take 30)).2.2.2.2.2] true) := by rw [hh, get_set_self]
    have w2 := (gh (k.size + 2) (by omega)).trans y2
    have w3 := (gh (k.size + 3) (by omega)).trans y3
    have w4 : h.get (k.size + 4) = some (.cells (zeroB).toArray true) := (gh (k.size + 4) (by omega)).trans y4
    have hR : R113.r false (grow p k1 h) h [u1, u2, .int .i64 (crashS D (x.2.2.2.2.take 30)).2.2.1, .int .i64 (crashS D (x.2.2.2.2.take 30)).2.2.2.1, .bool (crashS D (x.2.2.2.2.take 30)).2.2.2.2.1, .int .i64 (crashS D (x.2.2.2.2.take 30)).2.2.2.2.2] (crashS D (x.2.2.2.2.take 30)) := R113.mono hd2 (fun c hc => by
      rcases hc with hc | hc
      · exact .inl hc
      · exact .inr ⟨by omega, by omega⟩) id (Fr.of fun c hc => by
      rcases hc with hc | hc
      · have := hp c hc; exact gh c (by omega)
      · exact gh c (by omega))
    clear hh
    rw [evalDraw_modes _ _ [(2, 0, 1), (3, 0, 2), (0, 0, 4), (5, 8, 9), (4, 11, 27), (0, 31, 63)] (by kernel_rfl)]
    have m0 : k.size < h.size := by omega
    have m2 : k.size + 2 < h.size := by omega
    have m3 : k.size + 3 < h.size := by omega
    have m4 : k.size + 4 < h.size := by omega
    have vo : ∀ c ∈ [u1, u2], ∀ kept bits, vokB (allow h.size kept bits) c = true := fun c hc kept bits => vb_old (vin_mono (fun b hb => by
      rcases hb with hb | hb
      · have := hp b hb; omega
      · exact hb.2) (R113.rvin hR c (by simp at hc; rcases hc with rfl | rfl <;> simp)))
    have vo1 := vo u1 (by simp)
    have vo2 := vo u2 (by simp)
    have e0 : (h.ro ≤ k.size) = True := by rw [rh]; exact r0
    have ej : ∀ j, (h.ro ≤ k.size + j) = True := fun j => by rw [rh]; exact rj j
    have bl : (zeroB).length = 64 := hf.len
    have bl64 : 64 ≤ (zeroB).length := by omega
    have btk : (zeroB).take 64 = zeroB := List.take_of_length_le (by omega)
    have bsp : splice zeroB.toArray 0 (zeroB) = (zeroB).toArray := splice_full (by rw [bl]; rfl)
    have vaf := fun p => all_flat (p := p) hf
    simp (maxDischargeDepth := 16) only [z05, z0d, z0e, z0o, z0t, z0u, z0v, z0z, z10, z11, z1e, z1f, z1v, z1w, z1x, z2o, z2x, z2y, z33, z35, z36, z3b, z3f, z3g, z3p, z3q, z3v, z3w, z3x, z3y, z3z, z41, z43, z44, z45, z46, z49, z4b, z4d, z4e, z4f, z4g, z4h, z4i, z4p, z4q, z4r, z4z, z52, z53, z5f, z5j, z5k, z5l, z5t, z5u, z5x, z62, z63, z66, z6d, z6g, z6t, z6v, z6x, z70, z71, z72, z8c, z8d, z8e, z8i, z8j, z8k, z8l, z8m, z8n, z8o, z8p, z8q, z8s, z8t, Nat.reduceEqDiff, Nat.reduceAdd, Nat.reduceSub, ↓reduceIte, Nat.reduceDiv, Nat.reduceMod, keepR, Hp.row, Hp.wr, tPartx98, tPartx113, tSizex98, tSizex113, w0, w2, w3, w4, ne_f m0, ne_f0 m0, lt_t m0, lt_t0 m0, ne_f m2, ne_f0 m2, lt_t m2, lt_t0 m2, ne_f m3, ne_f0 m3, lt_t m3, lt_t0 m3, ne_f m4, ne_f0 m4, lt_t m4, lt_t0 m4, btk, bl, bsp, vo1, vo2, ej, ou1, ou2, flat_all1 hf, vaf, finR_three]
    refine Al.done ⟨by simp only [Hp.size_setB]; omega, fun c hc => by rw [get_set_ne (by omega), get_set_ne (by omega), get_set_ne (by omega), get_set_ne (by omega)]; exact kh.get c hc⟩ (by simp only [Hp.ro_setB]; exact rh) ⟨_, rfl, R113.mono hR (fun c hc => ?_) id (Fr.of fun c hc => ?_), hf⟩
    · rcases hc with hc | hc
      · exact .inl hc
      · exact .inr ⟨by omega, by simp only [Hp.size_setB]; exact hc.2⟩
    · rcases hc with hc | hc
      · have := hp c hc; rw [get_set_ne (by omega), get_set_ne (by omega), get_set_ne (by omega), get_set_ne (by omega)]
      · rw [get_set_ne (by omega), get_set_ne (by omega), get_set_ne (by omega), get_set_ne (by omega)]
  by_cases h4 : kindN x < 5
  · have vok : ∀ c, vin p c → ∀ kept bits, vokB (allow k1.size kept bits) c = true := fun c hc kept bits => vb_old (vin_mono (fun b hb => hp1 b hb) hc)
    have v1k := vok m1 (R113.rvin rm00 m1 (by simp))
    have v2k := vok m2 (R113.rvin rm00 m2 (by simp))
    have v3k := vok v1 (R94.rvin r00 v1 (by simp))
    have eS : deedS D x = ((writeS D x.2.1 (blockL x.2.2.2.1)).1, zeroB, (writeS D x.2.1 (blockL x.2.2.2.1)).2) := by unfold deedS; rw [if_neg h5, if_neg h6, if_neg (by omega), if_neg (by omega), if_neg h9]
    rw [eS]
    have hf := flat_zeroB
    simp (maxDischargeDepth := 16) only [z08, z09, z0a, z0b, z0c, z0d, z0e, z0p, z0q, z0s, z0t, z0v, z0w, z0z, z10, z11, z13, z2b, z2d, z3b, z4e, z4f, z4g, z4h, z4i, z5a, z5b, z7t, h5, h6, h9, eq_true h4]
    rw [evalDraw_modes _ _ [(3, 0, 1), (0, 0, 2), (2, 2, 6), (0, 0, 8), (2, 8, 24), (2, 24, 56), (4, 63, 127), (0, 127, 255), (0, 255, 511), (0, 255, 767), (4, 511, 1535), (0, 2047, 4095)] (by kernel_rfl)]
    simp (maxDischargeDepth := 16) only [z0t, z0v, z0x, z0z, z16, z1e, z1l, z1v, z2w, z2x, z3b, z3h, z3x, z3y, z3z, z41, z43, z44, z45, z46, z4e, z4f, z4g, z4h, z4i, z4j, z4k, z4l, z4m, z4n, z4o, z4p, z4q, z4r, z4s, z4u, z4v, z4z, z50, z51, z53, z5a, z5f, z5j, z5l, z5u, z5x, z62, z63, z6a, z6d, z6g, z6h, z6j, z6t, z6v, z6x, z70, z71, z8c, z8i, Nat.reduceAdd, Nat.reduceSub, ↓reduceIte, keepR, Hp.cell, Hp.row, hasBx75, tFieldAx94x1, tFieldAx94x3, tPartx3, tPartx5, tPartx113, g0, g1, ne_f n0, ne_f0 n0, lt_t n0, lt_t0 n0, ne_f n1, ne_f0 n1, lt_t n1, lt_t0 n1, v1k, v2k]
    refine kd2Q (Al k _) (run_block L (N := N) (f := x.2.2.2.1) (by omega) (by rw [view_ro, view_size]; omega) b4) (fun v k' _ h => by rw [h]; exact vin_agg (vin_flatOk (blockL_flat b4))) (by decide) ?_
    rintro _ k3 m hk3 rfl ms mr mg -
    have s3 := hk3.size
    rw [view_size] at s3
    have km : Keeps k1 m := ⟨by omega, mg⟩
    have kkm : Keeps k m := kk.trans km
    have hrm : m.ro = k.ro := by omega
    simp (maxDischargeDepth := 16) only [z0t, z0v, z0x, z1l, z3b, z3h, z4e, z4f, z4g, z4h, z4i, z4j, z4k, z4l, z4s, z4u, z4v, z8d, Nat.reduceAdd, ↓reduceIte, hasBx82]
    refine ex_kd1 (Al k _) (Al.ex (run_rWrite (N := N) J (by omega) (by omega) (R113.mono rm00 (fun _ h => h) id (kkm.fr hp)) (fun c hc => by have := hp c hc; omega) wf b2 (blockL_flat b4))) ?_ ?_ (by decide) ?_
    · rintro v k' ⟨h, -⟩; exact h.size
    · rintro v k' ⟨h, -, cs', rfl, hd⟩
      refine vin_tup fun c hc => ?_
      simp at hc
      rcases hc with rfl | rfl
      · refine vin_agg fun c hc => vin_mono (fun b hb => ?_) (R113.rvin hd c hc)
        rcases hb with hb | hb
        · exact .inl (hp1 b hb)
        · exact .inr hb
      · exact vin_flat flatB_int
    rintro _ k2 ⟨hk2', hr2', c2, rfl, hd2⟩
    have hk2 : Keeps k1 k2 := km.trans hk2'
    have hd0 := hd2
    replace hd2 : R113.r false (grow p k1 k2) k2 c2 (writeS D x.2.1 (blockL x.2.2.2.1)).1 := R113.mono hd2 (fun c hc => by
      rcases hc with hc | hc
      · exact .inl hc
      · exact .inr ⟨by omega, hc.2⟩) id (Fr.refl _)
    obtain ⟨u1, u2, rfl, hu1, hu2, -⟩ := R113_inv hd2
    have ou1 := (R110).rone hu1 u1 (List.mem_singleton.2 rfl)
    have ou2 := (R111).rone hu2 u2 (List.mem_singleton.2 rfl)
    have s2 := hk2.size
    have hk2k : Keeps k k2 := kk.trans hk2
    have hr2k : k2.ro = k.ro := by omega
    have y0 := (hk2.get _ n0).trans g0
    have y2 := (hk2.get _ n2).trans g2
    have y3 := (hk2.get _ n3).trans g3
    have y4 := (hk2.get _ n4).trans g4
    have m0 : k.size < k2.size := by omega
    have m4 : k.size + 4 < k2.size := by omega
    have p0 : (k2.ro ≤ k.size) = True := by rw [hr2k]; exact r0
    have p4 : (k2.ro ≤ k.size + 4) = True := by rw [hr2k]; exact rj 4
    have vq : ∀ c ∈ [u1, u2], ∀ bits, bits.testBit 6 = true → vokB (allow k1.size (keepS 6 m.size k2.size (keepS 5 k1.size k3.size [])) bits) c = true := fun c hc bits hb => vb_keepS (vin_mono (fun b hb => by
      rcases hb with hb | hb
      · exact .inl (hp1 b hb)
      · exact .inr hb) (R113.rvin hd0 c (by simp at hc; rcases hc with rfl | rfl <;> simp))) bits hb
    have vq1 := vq u1 (by simp) 127 (by decide)
    have vq2 := vq u2 (by simp) 127 (by decide)
    have vq3 := vq u1 (by simp) 255 (by decide)
    have vq4 := vq u2 (by simp) 255 (by decide)
    simp (maxDischargeDepth := 16) only [z09, z0d, z0e, z0h, z0t, z0u, z0v, z0z, z10, z11, z1a, z1f, z1w, z1x, z2o, z2t, z2y, z3b, z3p, z3q, z3v, z3w, z44, z45, z46, z49, z4b, z4e, z4f, z4g, z4h, z4i, z4m, z4n, z4o, z4p, z4q, z4r, z53, z5f, z5j, z5k, z5t, z5u, z62, z63, z66, z6d, z6e, z6g, z72, z7t, z8d, Nat.reduceAdd, ↓reduceIte, keepR, Hp.wr, tSizex113, y0, ne_f m0, ne_f0 m0, lt_t m0, lt_t0 m0, p0, ou1, ou2, vq1, vq2, vq3, vq4]
    refine evalDraw_heap (Al k _) fun h hh => ?_
    have sh : h.size = k2.size := by rw [hh]; simp only [Hp.size_setB]
    have rh : h.ro = k.ro := by rw [hh]; simp only [Hp.ro_setB]; exact hr2k
    have gh : ∀ c, c ≠ k.size → h.get c = k2.get c := fun c _ => by rw [hh, get_set_ne (by omega)]
    have kh : Keeps k h := ⟨by omega, fun c hc => by rw [gh c (by omega)]; exact hk2k.get c hc⟩
    have w0 : h.get k.size = some (.cells #[u1, u2, .int .i64 (writeS D x.2.1 (blockL x.2.2.2.1)).1.2.2.1, .int .i64 (writeS D x.2.1 (blockL x.2.2.2.1)).1.2.2.2.1, .bool (writeS D x.2.1 (blockL x.2.2.2.1)).1.2.2.2.2.1, .int .i64 (writeS D x.2.1 (blockL x.2.2.2.1)).1.2.2.2.2.2] true) := by rw [hh, get_set_self]
    have w2 := (gh (k.size + 2) (by omega)).trans y2
    have w3 := (gh (k.size + 3) (by omega)).trans y3
    have w4 : h.get (k.size + 4) = some (.cells (zeroB).toArray true) := (gh (k.size + 4) (by omega)).trans y4
    have hR : R113.r false (grow p k1 h) h [u1, u2, .int .i64 (writeS D x.2.1 (blockL x.2.2.2.1)).1.2.2.1, .int .i64 (writeS D x.2.1 (blockL x.2.2.2.1)).1.2.2.2.1, .bool (writeS D x.2.1 (blockL x.2.2.2.1)).1.2.2.2.2.1, .int .i64 (writeS D x.2.1 (blockL x.2.2.2.1)).1.2.2.2.2.2] (writeS D x.2.1 (blockL x.2.2.2.1)).1 := R113.mono hd2 (fun c hc => by
      rcases hc with hc | hc
      · exact .inl hc
      · exact .inr ⟨by omega, by omega⟩) id (Fr.of fun c hc => by
      rcases hc with hc | hc
      · have := hp c hc; exact gh c (by omega)
      · exact gh c (by omega))
    clear hh
    rw [evalDraw_modes _ _ [(2, 0, 1), (3, 0, 2), (0, 0, 4), (5, 8, 9), (4, 11, 27), (0, 31, 63)] (by kernel_rfl)]
    have m0 : k.size < h.size := by omega
    have m2 : k.size + 2 < h.size := by omega
    have m3 : k.size + 3 < h.size := by omega
    have m4 : k.size + 4 < h.size := by omega
    have vo : ∀ c ∈ [u1, u2], ∀ kept bits, vokB (allow h.size kept bits) c = true := fun c hc kept bits => vb_old (vin_mono (fun b hb => by
      rcases hb with hb | hb
      · have := hp b hb; omega
      · exact hb.2) (R113.rvin hR c (by simp at hc; rcases hc with rfl | rfl <;> simp)))
    have vo1 := vo u1 (by simp)
    have vo2 := vo u2 (by simp)
    have e0 : (h.ro ≤ k.size) = True := by rw [rh]; exact r0
    have ej : ∀ j, (h.ro ≤ k.size + j) = True := fun j => by rw [rh]; exact rj j
    have bl : (zeroB).length = 64 := hf.len
    have bl64 : 64 ≤ (zeroB).length := by omega
    have btk : (zeroB).take 64 = zeroB := List.take_of_length_le (by omega)
    have bsp : splice zeroB.toArray 0 (zeroB) = (zeroB).toArray := splice_full (by rw [bl]; rfl)
    have vaf := fun p => all_flat (p := p) hf
    simp (maxDischargeDepth := 16) only [z05, z0d, z0e, z0o, z0t, z0u, z0v, z0z, z10, z11, z1e, z1f, z1v, z1w, z1x, z2o, z2x, z2y, z33, z35, z36, z3b, z3f, z3g, z3p, z3q, z3v, z3w, z3x, z3y, z3z, z41, z43, z44, z45, z46, z49, z4b, z4d, z4e, z4f, z4g, z4h, z4i, z4p, z4q, z4r, z4z, z52, z53, z5f, z5j, z5k, z5l, z5t, z5u, z5x, z62, z63, z66, z6d, z6g, z6t, z6v, z6x, z70, z71, z72, z8c, z8d, z8e, z8i, z8j, z8k, z8l, z8m, z8n, z8o, z8p, z8q, z8s, z8t, Nat.reduceEqDiff, Nat.reduceAdd, Nat.reduceSub, ↓reduceIte, Nat.reduceDiv, Nat.reduceMod, keepR, Hp.row, Hp.wr, tPartx98, tPartx113, tSizex98, tSizex113, w0, w2, w3, w4, ne_f m0, ne_f0 m0, lt_t m0, lt_t0 m0, ne_f m2, ne_f0 m2, lt_t m2, lt_t0 m2, ne_f m3, ne_f0 m3, lt_t m3, lt_t0 m3, ne_f m4, ne_f0 m4, lt_t m4, lt_t0 m4, btk, bl, bsp, vo1, vo2, ej, ou1, ou2, flat_all1 hf, vaf, finR_three]
    refine Al.done ⟨by simp only [Hp.size_setB]; omega, fun c hc => by rw [get_set_ne (by omega), get_set_ne (by omega), get_set_ne (by omega), get_set_ne (by omega)]; exact kh.get c hc⟩ (by simp only [Hp.ro_setB]; exact rh) ⟨_, rfl, R113.mono hR (fun c hc => ?_) id (Fr.of fun c hc => ?_), hf⟩
    · rcases hc with hc | hc
      · exact .inl hc
      · exact .inr ⟨by omega, by simp only [Hp.size_setB]; exact hc.2⟩
    · rcases hc with hc | hc
      · have := hp c hc; rw [get_set_ne (by omega), get_set_ne (by omega), get_set_ne (by omega), get_set_ne (by omega)]
      · rw [get_set_ne (by omega), get_set_ne (by omega), get_set_ne (by omega), get_set_ne (by omega)]
  by_cases hd : D.2.2.2.2.1 = true
  · have eS : deedS D x = (D, zeroB, 9) := by
      unfold deedS
      rw [if_neg h5, if_neg h6]
      by_cases h7 : kindN x = 7
      · rw [if_pos h7]; unfold armS; rw [if_pos hd]
      · rw [if_neg h7, if_pos (by omega)]; unfold failS; rw [if_pos hd]
    rw [eS]
    have hf := flat_zeroB
    simp (maxDischargeDepth := 16) only [z08, z09, z0a, z0b, z0c, z0d, z0e, z0h, z0p, z0q, z0s, z0t, z0v, z0w, z0z, z10, z11, z13, z16, z1e, z1v, z2b, z2d, z2w, z2x, z3b, z4e, z4f, z4g, z4h, z4i, z4m, z4n, z4o, z50, z51, z53, z5b, z7t, Hp.cell, tFieldAx113x4, tPartx4, h5, h6, h9, h4, g0, ne_f n0, ne_f0 n0, lt_t n0, lt_t0 n0, hd]
    have hk2k := kk
    have hr2k := hro1
    have hd2 : R113.r false (grow p k1 k1) k1 [m1, m2, .int .i64 D.2.2.1, .int .i64 D.2.2.2.1, .bool D.2.2.2.2.1, .int .i64 D.2.2.2.2.2] D := R113.mono rm1 (fun c hc => .inl hc) id (Fr.refl _)
    have ou1 := om1
    have ou2 := om2
    refine evalDraw_heap (Al k _) fun h hh => ?_
    have sh : h.size = k1.size := by rw [hh]
    have rh : h.ro = k.ro := by rw [hh]; exact hr2k
    have gh : ∀ c, c ≠ k.size → h.get c = k1.get c := fun c _ => by rw [hh]
    have kh : Keeps k h := ⟨by omega, fun c hc => by rw [gh c (by omega)]; exact hk2k.get c hc⟩
    have w0 : h.get k.size = some (.cells #[m1, m2, .int .i64 D.2.2.1, .int .i64 D.2.2.2.1, .bool D.2.2.2.2.1, .int .i64 D.2.2.2.2.2] true) := by rw [hh]; rw [g0, hd]
    have w2 := (gh (k.size + 2) (by omega)).trans g2
    have w3 := (gh (k.size + 3) (by omega)).trans g3
    have w4 : h.get (k.size + 4) = some (.cells (zeroB).toArray true) := (gh (k.size + 4) (by omega)).trans g4
    have hR : R113.r false (grow p k1 h) h [m1, m2, .int .i64 D.2.2.1, .int .i64 D.2.2.2.1, .bool D.2.2.2.2.1, .int .i64 D.2.2.2.2.2] D := R113.mono hd2 (fun c hc => by
      rcases hc with hc | hc
      · exact .inl hc
      · exact .inr ⟨by omega, by omega⟩) id (Fr.of fun c hc => by
      rcases hc with hc | hc
      · have := hp c hc; exact gh c (by omega)
      · exact gh c (by omega))
    clear hh
    rw [evalDraw_modes _ _ [(2, 0, 1), (3, 0, 2), (0, 0, 4), (5, 8, 9), (4, 11, 27), (0, 31, 63)] (by kernel_rfl)]
    have m0 : k.size < h.size := by omega
    have l2 : k.size + 2 < h.size := by omega
    have m3 : k.size + 3 < h.size := by omega
    have m4 : k.size + 4 < h.size := by omega
    have vo : ∀ c ∈ [m1, m2], ∀ kept bits, vokB (allow h.size kept bits) c = true := fun c hc kept bits => vb_old (vin_mono (fun b hb => by
      rcases hb with hb | hb
      · have := hp b hb; omega
      · exact hb.2) (R113.rvin hR c (by simp at hc; rcases hc with rfl | rfl <;> simp)))
    have vo1 := vo m1 (by simp)
    have vo2 := vo m2 (by simp)
    have e0 : (h.ro ≤ k.size) = True := by rw [rh]; exact r0
    have ej : ∀ j, (h.ro ≤ k.size + j) = True := fun j => by rw [rh]; exact rj j
    have bl : (zeroB).length = 64 := hf.len
    have bl64 : 64 ≤ (zeroB).length := by omega
    have btk : (zeroB).take 64 = zeroB := List.take_of_length_le (by omega)
    have bsp : splice zeroB.toArray 0 (zeroB) = (zeroB).toArray := splice_full (by rw [bl]; rfl)
    have vaf := fun p => all_flat (p := p) hf
    simp (maxDischargeDepth := 16) only [z05, z0d, z0e, z0o, z0t, z0u, z0v, z0z, z10, z11, z1e, z1f, z1v, z1w, z1x, z2o, z2x, z2y, z33, z35, z36, z3b, z3f, z3g, z3p, z3q, z3v, z3w, z3x, z3y, z3z, z41, z43, z44, z45, z46, z49, z4b, z4d, z4e, z4f, z4g, z4h, z4i, z4p, z4q, z4r, z4z, z52, z53, z5f, z5j, z5k, z5l, z5t, z5u, z5x, z62, z63, z66, z6d, z6g, z6t, z6v, z6x, z70, z71, z72, z8c, z8d, z8e, z8i, z8j, z8k, z8l, z8m, z8n, z8o, z8p, z8q, z8s, z8t, Nat.reduceEqDiff, Nat.reduceAdd, Nat.reduceSub, ↓reduceIte, Nat.reduceDiv, Nat.reduceMod, keepR, Hp.row, Hp.wr, tPartx98, tPartx113, tSizex98, tSizex113, w0, w2, w3, w4, ne_f m0, ne_f0 m0, lt_t m0, lt_t0 m0, ne_f l2, ne_f0 l2, lt_t l2, lt_t0 l2, ne_f m3, ne_f0 m3, lt_t m3, lt_t0 m3, ne_f m4, ne_f0 m4, lt_t m4, lt_t0 m4, btk, bl, bsp, vo1, vo2, ej, ou1, ou2, flat_all1 hf, vaf, finR_three]
    refine Al.done ⟨by simp only [Hp.size_setB]; omega, fun c hc => by rw [get_set_ne (by omega), get_set_ne (by omega), get_set_ne (by omega), get_set_ne (by omega)]; exact kh.get c hc⟩ (by simp only [Hp.ro_setB]; exact rh) ⟨_, rfl, R113.mono hR (fun c hc => ?_) id (Fr.of fun c hc => ?_), hf⟩
    · rcases hc with hc | hc
      · exact .inl hc
      · exact .inr ⟨by omega, by simp only [Hp.size_setB]; exact hc.2⟩
    · rcases hc with hc | hc
      · have := hp c hc; rw [get_set_ne (by omega), get_set_ne (by omega), get_set_ne (by omega), get_set_ne (by omega)]
      · rw [get_set_ne (by omega), get_set_ne (by omega), get_set_ne (by omega), get_set_ne (by omega)]
  have hd' : D.2.2.2.2.1 = false := by simpa using hd
  by_cases h7 : kindN x = 7
  · have eS : deedS D x = ((D.1, D.2.1, max x.2.2.1 (-1), D.2.2.2), zeroB, 0) := by
      unfold deedS
      rw [if_neg h5, if_neg h6, if_pos h7]; unfold armS; rw [if_neg hd]
    rw [eS]
    have hf := flat_zeroB
    simp (maxDischargeDepth := 16) only [z08, z09, z0a, z0b, z0c, z0d, z0e, z0h, z0p, z0q, z0s, z0t, z0u, z0v, z0w, z0z, z10, z11, z13, z16, z1e, z1f, z1t, z1v, z1w, z1x, z2b, z2d, z2j, z2m, z2w, z2x, z2y, z3b, z3p, z3v, z3w, z44, z45, z49, z4e, z4f, z4g, z4h, z4i, z4j, z4k, z4l, z4m, z4n, z4o, z4p, z4q, z4r, z50, z51, z53, z5a, z5b, z5f, z72, z7t, Nat.reduceLeDiff, Nat.reduceAdd, ↓reduceIte, Hp.cell, Hp.wr, tFieldAx94x2, tFieldAx113x2, tFieldAx113x4, tPartx3, tPartx4, tSizex3, h5, h6, h9, h4, g0, g1, ne_f n0, ne_f0 n0, lt_t n0, lt_t0 n0, ne_f n1, ne_f0 n1, lt_t n1, lt_t0 n1, q0, hd', eq_true h7]
    have hk2k := kk
    have hr2k := hro1
    have hd2 : R113.r false (grow p k1 k1) k1 [m1, m2, .int .i64 (D.1, D.2.1, max x.2.2.1 (-1), D.2.2.2).2.2.1, .int .i64 (D.1, D.2.1, max x.2.2.1 (-1), D.2.2.2).2.2.2.1, .bool (D.1, D.2.1, max x.2.2.1 (-1), D.2.2.2).2.2.2.2.1, .int .i64 (D.1, D.2.1, max x.2.2.1 (-1), D.2.2.2).2.2.2.2.2] (D.1, D.2.1, max x.2.2.1 (-1), D.2.2.2) := R113_mk (x := (D.1, D.2.1, max x.2.2.1 (-1), D.2.2.2)) (R110.mono hr1 (fun c hc => .inl hc) id (kk.fr hp)) (R111.mono hr2 (fun c hc => .inl hc) id (kk.fr hp)) (max_ok b3) f2 f3
    have ou1 := om1
    have ou2 := om2
    refine evalDraw_heap (Al k _) fun h hh => ?_
    have sh : h.size = k1.size := by rw [hh]; simp only [Hp.size_setB]
    have rh : h.ro = k.ro := by rw [hh]; simp only [Hp.ro_setB]; exact hr2k
    have gh : ∀ c, c ≠ k.size → h.get c = k1.get c := fun c _ => by rw [hh, get_set_ne (by omega)]
    have kh : Keeps k h := ⟨by omega, fun c hc => by rw [gh c (by omega)]; exact hk2k.get c hc⟩
    have w0 : h.get k.size = some (.cells #[m1, m2, .int .i64 (D.1, D.2.1, max x.2.2.1 (-1), D.2.2.2).2.2.1, .int .i64 (D.1, D.2.1, max x.2.2.1 (-1), D.2.2.2).2.2.2.1, .bool (D.1, D.2.1, max x.2.2.1 (-1), D.2.2.2).2.2.2.2.1, .int .i64 (D.1, D.2.1, max x.2.2.1 (-1), D.2.2.2).2.2.2.2.2] true) := by rw [hh, get_set_self]; simp only [hd']
    have w2 := (gh (k.size + 2) (by omega)).trans g2
    have w3 := (gh (k.size + 3) (by omega)).trans g3
    have w4 : h.get (k.size + 4) = some (.cells (zeroB).toArray true) := (gh (k.size + 4) (by omega)).trans g4
    have hR : R113.r false (grow p k1 h) h [m1, m2, .int .i64 (D.1, D.2.1, max x.2.2.1 (-1), D.2.2.2).2.2.1, .int .i64 (D.1, D.2.1, max x.2.2.1 (-1), D.2.2.2).2.2.2.1, .bool (D.1, D.2.1, max x.2.2.1 (-1), D.2.2.2).2.2.2.2.1, .int .i64 (D.1, D.2.1, max x.2.2.1 (-1), D.2.2.2).2.2.2.2.2] (D.1, D.2.1, max x.2.2.1 (-1), D.2.2.2) := R113.mono hd2 (fun c hc => by
      rcases hc with hc | hc
      · exact .inl hc
      · exact .inr ⟨by omega, by omega⟩) id (Fr.of fun c hc => by
      rcases hc with hc | hc
      · have := hp c hc; exact gh c (by omega)
      · exact gh c (by omega))
    clear hh
    rw [evalDraw_modes _ _ [(2, 0, 1), (3, 0, 2), (0, 0, 4), (5, 8, 9), (4, 11, 27), (0, 31, 63)] (by kernel_rfl)]
    have m0 : k.size < h.size := by omega
    have l2 : k.size + 2 < h.size := by omega
    have m3 : k.size + 3 < h.size := by omega
    have m4 : k.size + 4 < h.size := by omega
    have vo : ∀ c ∈ [m1, m2], ∀ kept bits, vokB (allow h.size kept bits) c = true := fun c hc kept bits => vb_old (vin_mono (fun b hb => by
      rcases hb with hb | hb
      · have := hp b hb; omega
      · exact hb.2) (R113.rvin hR c (by simp at hc; rcases hc with rfl | rfl <;> simp)))
    have vo1 := vo m1 (by simp)
    have vo2 := vo m2 (by simp)
    have e0 : (h.ro ≤ k.size) = True := by rw [rh]; exact r0
    have ej : ∀ j, (h.ro ≤ k.size + j) = True := fun j => by rw [rh]; exact rj j
    have bl : (zeroB).length = 64 := hf.len
    have bl64 : 64 ≤ (zeroB).length := by omega
    have btk : (zeroB).take 64 = zeroB := List.take_of_length_le (by omega)
    have bsp : splice zeroB.toArray 0 (zeroB) = (zeroB).toArray := splice_full (by rw [bl]; rfl)
    have vaf := fun p => all_flat (p := p) hf
    simp (maxDischargeDepth := 16) only [z05, z0d, z0e, z0o, z0t, z0u, z0v, z0z, z10, z11, z1e, z1f, z1v, z1w, z1x, z2o, z2x, z2y, z33, z35, z36, z3b, z3f, z3g, z3p, z3q, z3v, z3w, z3x, z3y, z3z, z41, z43, z44, z45, z46, z49, z4b, z4d, z4e, z4f, z4g, z4h, z4i, z4p, z4q, z4r, z4z, z52, z53, z5f, z5j, z5k, z5l, z5t, z5u, z5x, z62, z63, z66, z6d, z6g, z6t, z6v, z6x, z70, z71, z72, z8c, z8d, z8e, z8i, z8j, z8k, z8l, z8m, z8n, z8o, z8p, z8q, z8s, z8t, Nat.reduceEqDiff, Nat.reduceAdd, Nat.reduceSub, ↓reduceIte, Nat.reduceDiv, Nat.reduceMod, keepR, Hp.row, Hp.wr, tPartx98, tPartx113, tSizex98, tSizex113, w0, w2, w3, w4, ne_f m0, ne_f0 m0, lt_t m0, lt_t0 m0, ne_f l2, ne_f0 l2, lt_t l2, lt_t0 l2, ne_f m3, ne_f0 m3, lt_t m3, lt_t0 m3, ne_f m4, ne_f0 m4, lt_t m4, lt_t0 m4, btk, bl, bsp, vo1, vo2, ej, ou1, ou2, flat_all1 hf, vaf, finR_three]
    refine Al.done ⟨by simp only [Hp.size_setB]; omega, fun c hc => by rw [get_set_ne (by omega), get_set_ne (by omega), get_set_ne (by omega), get_set_ne (by omega)]; exact kh.get c hc⟩ (by simp only [Hp.ro_setB]; exact rh) ⟨_, rfl, R113.mono hR (fun c hc => ?_) id (Fr.of fun c hc => ?_), hf⟩
    · rcases hc with hc | hc
      · exact .inl hc
      · exact .inr ⟨by omega, by simp only [Hp.size_setB]; exact hc.2⟩
    · rcases hc with hc | hc
      · have := hp c hc; rw [get_set_ne (by omega), get_set_ne (by omega), get_set_ne (by omega), get_set_ne (by omega)]
      · rw [get_set_ne (by omega), get_set_ne (by omega), get_set_ne (by omega), get_set_ne (by omega)]
  have eS : deedS D x = ((D.1, D.2.1, D.2.2.1, max x.2.2.1 (-1), D.2.2.2.2), zeroB, 0) := by
    unfold deedS
    rw [if_neg h5, if_neg h6, if_neg h7, if_pos (by omega)]; unfold failS; rw [if_neg hd]
  rw [eS]
  have hf := flat_zeroB
  simp (maxDischargeDepth := 16) only [z08, z09, z0a, z0c, z0d, z0e, z0h, z0p, z0q, z0s, z0t, z0u, z0v, z0w, z0z, z10, z11, z13, z16, z1e, z1f, z1t, z1v, z1w, z1x, z2b, z2d, z2j, z2m, z2w, z2x, z2y, z3b, z3p, z3v, z3w, z44, z45, z49, z4e, z4f, z4g, z4h, z4i, z4j, z4k, z4l, z4m, z4n, z4o, z4p, z4q, z4r, z50, z51, z53, z5b, z5f, z72, z7t, Nat.reduceLeDiff, Nat.reduceAdd, ↓reduceIte, Hp.cell, Hp.wr, tFieldAx94x2, tFieldAx113x3, tFieldAx113x4, tPartx3, tPartx4, tSizex3, h5, h6, h9, h4, g0, g1, ne_f n0, ne_f0 n0, lt_t n0, lt_t0 n0, ne_f n1, ne_f0 n1, lt_t n1, lt_t0 n1, q0, hd', h7]
  have hk2k := kk
  have hr2k := hro1
  have hd2 : R113.r false (grow p k1 k1) k1 [m1, m2, .int .i64 (D.1, D.2.1, D.2.2.1, max x.2.2.1 (-1), D.2.2.2.2).2.2.1, .int .i64 (D.1, D.2.1, D.2.2.1, max x.2.2.1 (-1), D.2.2.2.2).2.2.2.1, .bool (D.1, D.2.1, D.2.2.1, max x.2.2.1 (-1), D.2.2.2.2).2.2.2.2.1, .int .i64 (D.1, D.2.1, D.2.2.1, max x.2.2.1 (-1), D.2.2.2.2).2.2.2.2.2] (D.1, D.2.1, D.2.2.1, max x.2.2.1 (-1), D.2.2.2.2) := R113_mk (x := (D.1, D.2.1, D.2.2.1, max x.2.2.1 (-1), D.2.2.2.2)) (R110.mono hr1 (fun c hc => .inl hc) id (kk.fr hp)) (R111.mono hr2 (fun c hc => .inl hc) id (kk.fr hp)) f1 (max_ok b3) f3
  have ou1 := om1
  have ou2 := om2
  refine evalDraw_heap (Al k _) fun h hh => ?_
  have sh : h.size = k1.size := by rw [hh]; simp only [Hp.size_setB]
  have rh : h.ro = k.ro := by rw [hh]; simp only [Hp.ro_setB]; exact hr2k
  have gh : ∀ c, c ≠ k.size → h.get c = k1.get c := fun c _ => by rw [hh, get_set_ne (by omega)]
  have kh : Keeps k h := ⟨by omega, fun c hc => by rw [gh c (by omega)]; exact hk2k.get c hc⟩
  have w0 : h.get k.size = some (.cells #[m1, m2, .int .i64 (D.1, D.2.1, D.2.2.1, max x.2.2.1 (-1), D.2.2.2.2).2.2.1, .int .i64 (D.1, D.2.1, D.2.2.1, max x.2.2.1 (-1), D.2.2.2.2).2.2.2.1, .bool (D.1, D.2.1, D.2.2.1, max x.2.2.1 (-1), D.2.2.2.2).2.2.2.2.1, .int .i64 (D.1, D.2.1, D.2.2.1, max x.2.2.1 (-1), D.2.2.2.2).2.2.2.2.2] true) := by rw [hh, get_set_self]; simp only [hd']
  have w2 := (gh (k.size + 2) (by omega)).trans g2
  have w3 := (gh (k.size + 3) (by omega)).trans g3
  have w4 : h.get (k.size + 4) = some (.cells (zeroB).toArray true) := (gh (k.size + 4) (by omega)).trans g4
  have hR : R113.r false (grow p k1 h) h [m1, m2, .int .i64 (D.1, D.2.1, D.2.2.1, max x.2.2.1 (-1), D.2.2.2.2).2.2.1, .int .i64 (D.1, D.2.1, D.2.2.1, max x.2.2.1 (-1), D.2.2.2.2).2.2.2.1, .bool (D.1, D.2.1, D.2.2.1, max x.2.2.1 (-1), D.2.2.2.2).2.2.2.2.1, .int .i64 (D.1, D.2.1, D.2.2.1, max x.2.2.1 (-1), D.2.2.2.2).2.2.2.2.2] (D.1, D.2.1, D.2.2.1, max x.2.2.1 (-1), D.2.2.2.2) := R113.mono hd2 (fun c hc => by
    rcases hc with hc | hc
    · exact .inl hc
    · exact .inr ⟨by omega, by omega⟩) id (Fr.of fun c hc => by
    rcases hc with hc | hc
    · have := hp c hc; exact gh c (by omega)
    · exact gh c (by omega))
  clear hh
  rw [evalDraw_modes _ _ [(2, 0, 1), (3, 0, 2), (0, 0, 4), (5, 8, 9), (4, 11, 27), (0, 31, 63)] (by kernel_rfl)]
  have m0 : k.size < h.size := by omega
  have l2 : k.size + 2 < h.size := by omega
  have m3 : k.size + 3 < h.size := by omega
  have m4 : k.size + 4 < h.size := by omega
  have vo : ∀ c ∈ [m1, m2], ∀ kept bits, vokB (allow h.size kept bits) c = true := fun c hc kept bits => vb_old (vin_mono (fun b hb => by
    rcases hb with hb | hb
    · have := hp b hb; omega
    · exact hb.2) (R113.rvin hR c (by simp at hc; rcases hc with rfl | rfl <;> simp)))
  have vo1 := vo m1 (by simp)
  have vo2 := vo m2 (by simp)
  have e0 : (h.ro ≤ k.size) = True := by rw [rh]; exact r0
  have ej : ∀ j, (h.ro ≤ k.size + j) = True := fun j => by rw [rh]; exact rj j
  have bl : (zeroB).length = 64 := hf.len
  have bl64 : 64 ≤ (zeroB).length := by omega
  have btk : (zeroB).take 64 = zeroB := List.take_of_length_le (by omega)
  have bsp : splice zeroB.toArray 0 (zeroB) = (zeroB).toArray := splice_full (by rw [bl]; rfl)
  have vaf := fun p => all_flat (p := p) hf
  simp (maxDischargeDepth := 16) only [z05, z0d, z0e, z0o, z0t, z0u, z0v, z0z, z10, z11, z1e, z1f, z1v, z1w, z1x, z2o, z2x, z2y, z33, z35, z36, z3b, z3f, z3g, z3p, z3q, z3v, z3w, z3x, z3y, z3z, z41, z43, z44, z45, z46, z49, z4b, z4d, z4e, z4f, z4g, z4h, z4i, z4p, z4q, z4r, z4z, z52, z53, z5f, z5j, z5k, z5l, z5t, z5u, z5x, z62, z63, z66, z6d, z6g, z6t, z6v, z6x, z70, z71, z72, z8c, z8d, z8e, z8i, z8j, z8k, z8l, z8m, z8n, z8o, z8p, z8q, z8s, z8t, Nat.reduceEqDiff, Nat.reduceAdd, Nat.reduceSub, ↓reduceIte, Nat.reduceDiv, Nat.reduceMod, keepR, Hp.row, Hp.wr, tPartx98, tPartx113, tSizex98, tSizex113, w0, w2, w3, w4, ne_f m0, ne_f0 m0, lt_t m0, lt_t0 m0, ne_f l2, ne_f0 l2, lt_t l2, lt_t0 l2, ne_f m3, ne_f0 m3, lt_t m3, lt_t0 m3, ne_f m4, ne_f0 m4, lt_t m4, lt_t0 m4, btk, bl, bsp, vo1, vo2, ej, ou1, ou2, flat_all1 hf, vaf, finR_three]
  refine Al.done ⟨by simp only [Hp.size_setB]; omega, fun c hc => by rw [get_set_ne (by omega), get_set_ne (by omega), get_set_ne (by omega), get_set_ne (by omega)]; exact kh.get c hc⟩ (by simp only [Hp.ro_setB]; exact rh) ⟨_, rfl, R113.mono hR (fun c hc => ?_) id (Fr.of fun c hc => ?_), hf⟩
  · rcases hc with hc | hc
    · exact .inl hc
    · exact .inr ⟨by omega, by simp only [Hp.size_setB]; exact hc.2⟩
  · rcases hc with hc | hc
    · have := hp c hc; rw [get_set_ne (by omega), get_set_ne (by omega), get_set_ne (by omega), get_set_ne (by omega)]
    · rw [get_set_ne (by omega), get_set_ne (by omega), get_set_ne (by omega), get_set_ne (by omega)]
end
end Go.Abs.B1
