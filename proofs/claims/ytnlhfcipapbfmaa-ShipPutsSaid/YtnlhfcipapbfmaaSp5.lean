/- ShipPuts, run. -/
import Derived.Test.YtnlhfcipapbfmaaSp4
import Derived.Test.YtnlhfcipapbfmaaSh1
namespace Go.Abs.B1
open Go.Proofs
set_option maxRecDepth 10000
set_option maxHeartbeats 8000000
set_option linter.all false
theorem small_viewD (x : T36) : Small (viewD x) := ⟨by simp only [viewD, baseD, List.length_take]; omega, by simp only [viewD, List.length_map, List.length_take]; omega, fun e he => by
  simp only [viewD, List.mem_map] at he
  obtain ⟨e', _, rfl⟩ := he
  simp only [cutE, List.length_take]; omega⟩
theorem ups_msgD (y : T47) : ∀ e ∈ entsY (msgD y), e.2.2.2.length ≤ 9 := fun e he => by
  simp only [entsY, msgD, List.mem_map] at he
  obtain ⟨e', _, rfl⟩ := he
  simp only [cutE, List.length_take]; omega
theorem ents_msgD (y : T47) : (entsY (msgD y)).length ≤ 9 := by simp only [entsY, msgD, List.length_map, List.length_take]; omega
theorem small_put {x : T36} {y : T47} {c : T72} (hx : Small x) (hy : ∀ e ∈ entsY y, e.2.2.2.length ≤ 9) (hc : ∀ e ∈ c.2.2.1, e ∈ entsY y) (hl : (putD x c).2.2.length ≤ 100) : Small (putD x c) := by
  have hb : (putD x c).2.1 = x.2.1 := by unfold putD; split; rfl; split <;> rfl
  refine ⟨by rw [hb]; exact hx.routes, hl, fun e he => ?_⟩
  unfold putD at he
  split at he
  · exact hx.ups e he
  · split at he
    · rcases List.mem_append.1 he with he | he
      · exact hx.ups e (List.mem_of_mem_take he)
      · exact hy e (hc e he)
    · exact hx.ups e he
theorem acc_ents (x : T36) (y : T47) : ∀ e ∈ (accD x y).2.2.1, e ∈ entsY y := by
  intro e he
  unfold accD at he
  split at he
  · cases he
  · split at he
    · cases he
    · cases hf : (List.range (entsY y).length).find? (isNew x y) with
      | none => rw [hf] at he; cases he
      | some i => rw [hf] at he; exact List.mem_of_mem_drop he
theorem acc_len (x : T36) (y : T47) : (accD x y).2.2.1.length ≤ (entsY y).length := by
  unfold accD
  split
  · simp
  · split
    · simp
    · cases hf : (List.range (entsY y).length).find? (isNew x y) with
      | none => simp [foundD]
      | some i => simp [foundD]
noncomputable abbrev g12 := gT
noncomputable def TS6p : TB := [(12, g12), (33, g33), (34, g34), (15, g15), (55, g55), (57, g57), (68, g68)]
noncomputable abbrev IS6p : Intr := fun f => TS6p.lookup f
theorem okS6p : IntrOk Try.prog (CKb Try.prog) IS6p := Con.table fun x hx => by
  simp only [TS6p, List.mem_cons, List.not_mem_nil, or_false] at hx
  rcases hx with rfl | rfl | rfl | rfl | rfl | rfl | rfl
  · exact con12
  · exact con33
  · exact con34
  · exact con15
  · exact con55
  · exact con57
  · exact con68
theorem run6 (h : Hp) (cs ds : List Value) (x : T36) (y : T47) (r : R36.r false (· < h.size) h cs x) (s : R47.r false (· < h.size) h ds y) (hro : h.ro ≤ h.size) : ∃ N, Al h (fun _ w => w = .bool true) (evalV Try.prog IS6p N (.fn 6) #[.agg cs.toArray, .agg ds.toArray] h) := by
  obtain ⟨N, hN⟩ : ∃ N, N = x.2.2.length + (entsY y).length + 3000 := ⟨_, rfl⟩
  refine ⟨N + 1, ?_⟩
  have hNy : y.2.2.2.2.2.1.length + 2 < N := by have : (entsY y).length = y.2.2.2.2.2.1.length := rfl; omega
  have r0 := r
  have s0 := s
  obtain ⟨v1, v2, rfl, b1, b2, b3, hv1, b4, b5, b6, b7, b8, b9, hv2⟩ := R36_inv r
  obtain ⟨u1, u2, u3, rfl, d1, d2, d3, d4, d5, d6, hu1, d7, d8, d9, d10, d11, hu2, d12, d13, d14, d15, d16, d17, d18, hu3, d19⟩ := R47_inv s
  have o1 : oneC v1 = true := R25.rone hv1 v1 (by simp)
  have o2 : oneC v2 = true := R34.rone hv2 v2 (by simp)
  have o3 : oneC u1 = true := R34.rone hu1 u1 (by simp)
  have o4 : oneC u2 = true := R25.rone hu2 u2 (by simp)
  have o5 : oneC u3 = true := R43.rone hu3 u3 (by simp)
  have vo1 := fun s0 kept bits (hh : h.size ≤ s0) => vb_old (s0 := s0) (kept := kept) (bits := bits) (vin_mono (fun b hb => Nat.lt_of_lt_of_le hb hh) (R25.rvin hv1 v1 (by simp)))
  have vo2 := fun s0 kept bits (hh : h.size ≤ s0) => vb_old (s0 := s0) (kept := kept) (bits := bits) (vin_mono (fun b hb => Nat.lt_of_lt_of_le hb hh) (R34.rvin hv2 v2 (by simp)))
  have vo3 := fun s0 kept bits (hh : h.size ≤ s0) => vb_old (s0 := s0) (kept := kept) (bits := bits) (vin_mono (fun b hb => Nat.lt_of_lt_of_le hb hh) (R34.rvin hu1 u1 (by simp)))
  have vo4 := fun s0 kept bits (hh : h.size ≤ s0) => vb_old (s0 := s0) (kept := kept) (bits := bits) (vin_mono (fun b hb => Nat.lt_of_lt_of_le hb hh) (R25.rvin hu2 u2 (by simp)))
  have vo5 := fun s0 kept bits (hh : h.size ≤ s0) => vb_old (s0 := s0) (kept := kept) (bits := bits) (vin_mono (fun b hb => Nat.lt_of_lt_of_le hb hh) (R43.rvin hu3 u3 (by simp)))
  have c12' : ∀ k, evalV Try.prog IS6p N (.fn 12) #[] k = some (.bool true, k) := fun k => by obtain ⟨n, rfl⟩ : ∃ n, N = n + 1 := ⟨N - 1, by omega⟩; exact (evalV_intr (g := g12) rfl).trans rfl
  rw [evalV_call (P := Try.prog) (intr := IS6p) (f := 6) (m := 174) (rs := #[.tmp 4]) rfl Try.func6 rfl rfl rfl]
  simp (maxDischargeDepth := 16) only [z04, z08, z09, z0a, z0c, z0d, z0e, z0p, z0q, z0s, z0t, z0v, z0w, z0x, z0z, z11, z14, z1h, z1l, z2h, z2o, z3b, z3h, z4a, z4e, z4f, z4g, z4h, z4i, z4j, z4l, z4p, z4q, z4r, z4s, z4t, z4u, z4v, z4w, z4x, z4y, z53, z5c, z7t, Nat.reduceAdd, Nat.reduceSub, ↓reduceIte, hasBx12, c12']
  rw [evalDraw_modes _ _ [(2, 0, 1), (2, 1, 3), (3, 0, 4), (2, 7, 15), (2, 0, 16), (2, 0, 32), (4, 63, 127), (4, 127, 255)] (by kernel_rfl)]
  simp (maxDischargeDepth := 16) only [z0t, z0v, z0x, z0z, z1e, z1l, z1v, z2x, z34, z38, z39, z3a, z3b, z3h, z3x, z3y, z3z, z41, z43, z44, z45, z46, z4a, z4e, z4f, z4g, z4h, z4i, z4j, z4k, z4l, z4p, z4q, z4r, z4s, z4u, z4v, z4z, z53, z5f, z5l, z5x, z62, z6d, z6g, z6t, z6v, z6x, z70, z71, z7b, Nat.reduceAdd, Nat.reduceSub, ↓reduceIte, keepR, Hp.row, hasBx13, tPartx36, vo1, vo2]
  refine al_kd2 (run13 (I := IS6p) rfl rfl rfl (p := (· < h.size)) (R36.mono r0 (fun _ h => h) id ((view_keeps (by repeat (first | assumption | exact Keeps.refl _ | refine Keeps.push ?_ _ | refine Keeps.set ?_ (by first | omega | (simp only [Hp.size_push, Hp.size_setB]; omega)) _)) (by simp)).fr (fun _ h => h))) (fun b hb => by rw [view_size]; simp only [Hp.size_push]; omega) (by rw [view_ro, view_size]; exact Nat.le_refl _) (by omega)) ?_ (by decide) ?_
  · rintro v k' hk' ⟨ds, rfl, hd⟩
    exact vin_agg fun c hc => vin_mono (fun b hb => .inr (by have h := hb.1; rw [view_size] at h; exact ⟨h, hb.2⟩)) (R36.rvin hd c hc)
  rintro v k1 m1 hk1 ⟨cs1, rfl, hd⟩ hm1 hm2 hm3 hm4
  have hs1 := hk1.size
  rw [view_size] at hs1
  have g0 := hm3 h.size (by first | omega | (simp only [Hp.size_push, Hp.size_setB, Hp.ro_push, Hp.ro_setB]; omega))
  have g1 := hm3 (h.size + 1) (by first | omega | (simp only [Hp.size_push, Hp.size_setB, Hp.ro_push, Hp.ro_setB]; omega))
  simp (maxDischargeDepth := 16) only [z34, z38, z39, z3a, z4a, z4c, Nat.reduceAdd, ↓reduceIte] at g0 g1 hm2 hs1
  have hf1 := R36.mono (Rp.fresh hd fun h => hm4 h _ (fun b hb => ⟨hb.2, .inr (by have h := hb.1; rw [view_size] at h; exact h)⟩)) (p' := fun b => h.size + 2 ≤ b ∧ b < k1.size) (fun b hb => ⟨by have h := hb.1; rw [view_size] at h; simpa using h, hb.2⟩) id (Fr.refl _)
  have hkm : Keeps h m1 := keeps_of (k := (h.push _).push _) (by repeat (first | assumption | exact Keeps.refl _ | refine Keeps.push ?_ _ | refine Keeps.set ?_ (by first | omega | (simp only [Hp.size_push, Hp.size_setB]; omega)) _)) (by simp only [Hp.size_push]; omega) hm3
  have p0 : h.size < h.size + 2 := by omega
  have p1 : h.size + 1 < h.size + 2 := by omega
  simp (maxDischargeDepth := 16) only [z0t, z0v, z0x, z0z, z1e, z1l, z1v, z2x, z3a, z3b, z3h, z3x, z3y, z3z, z41, z43, z44, z45, z46, z4a, z4e, z4f, z4g, z4h, z4i, z4j, z4k, z4l, z4p, z4q, z4r, z4s, z4u, z4v, z4z, z53, z5f, z5x, z62, z63, z6d, z6g, z7b, z8c, z8i, Nat.reduceAdd, Nat.reduceSub, ↓reduceIte, Hp.row, hasBx24, tPartx47, vo3, vo4, vo5, g1]
  refine al_kd2 (run24 (I := IS6p) rfl rfl rfl (p := (· < h.size)) (R47.mono s0 (fun _ h => h) id ((keeps_view hkm (fun z hz => by
      rcases keepS_mem hz with rfl | h'
      · show h.size ≤ h.size + 2; omega
      · cases h')).fr (fun _ h => h))) (fun b hb => by have := hkm.size; rw [view_size]; omega) (by rw [view_ro, view_size]; exact Nat.le_refl _) (by omega)) ?_ (by decide) ?_
  · rintro v k' hk' ⟨ds, rfl, hd⟩
    exact vin_agg fun c hc => vin_mono (fun b hb => .inr (by have h := hb.1; rw [view_size] at h; exact ⟨h, hb.2⟩)) (R47.rvin hd c hc)
  rintro v k2 m2 hk2 ⟨ds2, rfl, hd2⟩ hn1 hn2 hn3 hn4
  have hs2 := hk2.size
  rw [view_size] at hs2
  have hkm2 : Keeps h m2 := keeps_of hkm (by omega) hn3
  have hf2 := R47.mono (Rp.fresh hd2 fun h => hn4 h _ (fun b hb => ⟨hb.2, .inr (by have h := hb.1; rw [view_size] at h; exact h)⟩)) (p' := fun b => m1.size ≤ b ∧ b < k2.size) (fun b hb => ⟨by have h := hb.1; rw [view_size] at h; exact h, hb.2⟩) id (Fr.refl _)
  have hf1' := R36.mono hf1 (fun _ h => h) id (Fr.of fun b hb => hn3 b (by omega))
  have hV0 := R36.mono hf1' (p' := (· < m2.size)) (o' := false) (fun b hb => by have := hb.2; omega) (by simp) (Fr.refl _)
  have hM0 := R47.mono hf2 (p' := (· < m2.size)) (fun b hb => by have := hb.2; omega) (o' := false) (by simp) (Fr.refl _)
  have hSv := small_viewD x
  have hUm := ups_msgD y
  have hEm := ents_msgD y
  generalize viewD x = V at *
  generalize msgD y = M at *
  have hV := hV0
  have hM := hM0
  obtain ⟨x1, x2, rfl, xb1, xb2, xb3, hx1, xb4, xb5, xb6, xb7, xb8, xb9, hx2⟩ := R36_inv hV0
  obtain ⟨y1, y2, y3, rfl, yb1, yb2, yb3, yb4, yb5, yb6, hy1, yb7, yb8, yb9, yb10, yb11, hy2, yb12, yb13, yb14, yb15, yb16, yb17, yb18, hy3, yb19⟩ := R47_inv hM0
  have ox1 : oneC x1 = true := R25.rone hx1 x1 (by simp)
  have ox2 : oneC x2 = true := R34.rone hx2 x2 (by simp)
  have oy1 : oneC y1 = true := R34.rone hy1 y1 (by simp)
  have oy2 : oneC y2 = true := R25.rone hy2 y2 (by simp)
  have oy3 : oneC y3 = true := R43.rone hy3 y3 (by simp)
  have rr0 : ∀ j, (m2.ro ≤ m2.size + j) = True := fun j => eq_true (by omega)
  have rr1 : (m2.ro ≤ m2.size) = True := eq_true (by omega)
  have z1 : k2.size ≤ m2.size := by omega
  have z2 : k1.size ≤ m2.size := by omega
  have z3 : ∀ j, k2.size ≤ m2.size + j := fun j => by omega
  have z4 : ∀ j, k1.size ≤ m2.size + j := fun j => by omega
  simp (maxDischargeDepth := 16) only [z08, z09, z0d, z0e, z0q, z0s, z0t, z0u, z0v, z0x, z0z, z1e, z1f, z1g, z1l, z1v, z1w, z1x, z2o, z2x, z2y, z2z, z33, z34, z35, z36, z37, z38, z39, z3a, z3b, z3h, z3p, z3q, z3v, z3w, z3x, z3y, z3z, z41, z43, z44, z45, z46, z49, z4a, z4b, z4c, z4d, z4e, z4f, z4g, z4h, z4i, z4j, z4k, z4l, z4p, z4q, z4r, z4s, z4u, z4v, z4z, z53, z5a, z5b, z5f, z5h, z5k, z5l, z5t, z5x, z62, z63, z66, z67, z6a, z6g, z6i, z6o, z6t, z6y, z6z, z72, z74, z76, z78, z79, z7a, z7b, z7c, z7d, z7e, z8d, Nat.reduceEqDiff, Nat.reduceLeDiff, Nat.reduceAdd, Nat.reduceSub, ↓reduceIte, Nat.reduceDiv, Nat.reduceMod, Nat.reducePow, Nat.reduceLT, Int.reduceLT, keepR, Hp.row, Hp.wr, hasBx26, tPartx36, tPartx47, tSizex36, tSizex47, tZerox36, tZerox47, ox1, ox2, oy1, oy2, oy3, rr0, rr1]
  obtain ⟨ax, cx, rfl, -, -⟩ := slice_form hx2
  obtain ⟨ay, cy, rfl, -, -⟩ := slice_form hy1
  refine ex_ev (S := fun v k' => ∃ es, v = .tuple #[.agg es.toArray, .int .i64 (f26e V M)] ∧ R72.r false (· < k'.size) k' es (f26c V M) ∧ Keeps m2 k' ∧ k'.ro = m2.ro ∧ m2.size + 2 ≤ k'.size ∧ k'.get m2.size = some (.cells #[.int .u64 V.1, .int .u64 V.2.1.1.1, .int .u64 V.2.1.1.2, x1, .int .u32 V.2.1.2.2.1.1, .int .u64 V.2.1.2.2.1.2, .int .u32 V.2.1.2.2.2.1.1, .int .u64 V.2.1.2.2.2.1.2, .int .u32 V.2.1.2.2.2.2.1, .int .u64 V.2.1.2.2.2.2.2, .slice ax V.2.2.length cx] true) ∧ k'.get (m2.size + 1) = some (.cells #[.int .i64 M.1, .int .i64 M.2.1, .int .i64 M.2.2.1, .int .u64 M.2.2.2.1, .int .u64 M.2.2.2.2.1.1, .int .u64 M.2.2.2.2.1.2, .slice ay (entsY M).length cy, .int .u64 M.2.2.2.2.2.2.1, .bool M.2.2.2.2.2.2.2.1, .int .u64 M.2.2.2.2.2.2.2.2.1, .int .u64 M.2.2.2.2.2.2.2.2.2.1, .int .u64 M.2.2.2.2.2.2.2.2.2.2.1.1.1, .int .u64 M.2.2.2.2.2.2.2.2.2.2.1.1.2, y2, .int .u32 M.2.2.2.2.2.2.2.2.2.2.1.2.2.1.1, .int .u64 M.2.2.2.2.2.2.2.2.2.2.1.2.2.1.2, .int .u32 M.2.2.2.2.2.2.2.2.2.2.1.2.2.2.1.1, .int .u64 M.2.2.2.2.2.2.2.2.2.2.1.2.2.2.1.2, .int .u32 M.2.2.2.2.2.2.2.2.2.2.1.2.2.2.2.1, .int .u64 M.2.2.2.2.2.2.2.2.2.2.1.2.2.2.2.2, .int .u32 M.2.2.2.2.2.2.2.2.2.2.2.1, y3, .int .i64 M.2.2.2.2.2.2.2.2.2.2.2.2.2] true)) (Al h _) (fun k0 hk0 => ?_) ?_
  · have sz0 : k0.size = m2.size + 2 := by rw [hk0]; simp only [Hp.size_setB, Hp.size_push]
    have ro0 : k0.ro = m2.ro := by rw [hk0]; simp only [Hp.ro_setB, Hp.ro_push]
    have kk0 : Keeps m2 k0 := by rw [hk0]; exact (by repeat (first | assumption | exact Keeps.refl _ | refine Keeps.push ?_ _ | refine Keeps.set ?_ (by first | omega | (simp only [Hp.size_push, Hp.size_setB]; omega)) _))
    have g5 : k0.get m2.size = some (.cells #[.int .u64 V.1, .int .u64 V.2.1.1.1, .int .u64 V.2.1.1.2, x1, .int .u32 V.2.1.2.2.1.1, .int .u64 V.2.1.2.2.1.2, .int .u32 V.2.1.2.2.2.1.1, .int .u64 V.2.1.2.2.2.1.2, .int .u32 V.2.1.2.2.2.2.1, .int .u64 V.2.1.2.2.2.2.2, .slice ax V.2.2.length cx] true) := by rw [hk0, get_set_ne (by omega), get_set_self]
    have g6 : k0.get (m2.size + 1) = some (.cells #[.int .i64 M.1, .int .i64 M.2.1, .int .i64 M.2.2.1, .int .u64 M.2.2.2.1, .int .u64 M.2.2.2.2.1.1, .int .u64 M.2.2.2.2.1.2, .slice ay (entsY M).length cy, .int .u64 M.2.2.2.2.2.2.1, .bool M.2.2.2.2.2.2.2.1, .int .u64 M.2.2.2.2.2.2.2.2.1, .int .u64 M.2.2.2.2.2.2.2.2.2.1, .int .u64 M.2.2.2.2.2.2.2.2.2.2.1.1.1, .int .u64 M.2.2.2.2.2.2.2.2.2.2.1.1.2, y2, .int .u32 M.2.2.2.2.2.2.2.2.2.2.1.2.2.1.1, .int .u64 M.2.2.2.2.2.2.2.2.2.2.1.2.2.1.2, .int .u32 M.2.2.2.2.2.2.2.2.2.2.1.2.2.2.1.1, .int .u64 M.2.2.2.2.2.2.2.2.2.2.1.2.2.2.1.2, .int .u32 M.2.2.2.2.2.2.2.2.2.2.1.2.2.2.2.1, .int .u64 M.2.2.2.2.2.2.2.2.2.2.1.2.2.2.2.2, .int .u32 M.2.2.2.2.2.2.2.2.2.2.2.1, y3, .int .i64 M.2.2.2.2.2.2.2.2.2.2.2.2.2] true) := by rw [hk0, get_set_self]
    refine (Al.ex (run26 (I := IS6p) (N := N) (p := (· < m2.size)) rfl rfl rfl rfl rfl rfl rfl rfl rfl rfl (R36.mono hV (fun _ h => h) id (kk0.fr fun _ h => h)) (R47.mono hM (fun _ h => h) id (kk0.fr fun _ h => h)) (fun b hb => by omega) (by omega) hSv (by omega) (fun e he => by have := hUm e he; omega) (by omega))).mono ?_
    rintro v k' ⟨hk', hr', es, rfl, hR⟩
    have := hk'.size
    exact ⟨es, rfl, R72.mono hR (fun b hb => hb.2) (by simp) (Fr.refl _), kk0.trans hk', by omega, by omega, (hk'.get _ (by omega)).trans g5, (hk'.get _ (by omega)).trans g6⟩
  rintro _ k3 ⟨es, rfl, hC, kk3, ro3, s3, g5, g6⟩
  have hCC := hC
  obtain ⟨w, rfl, wb1, hw, wb2⟩ := R72_inv hC
  obtain ⟨aw, cw, rfl, -, -⟩ := slice_form hw
  have ow := (Rp.slice R85).rone hw _ (List.mem_singleton.2 rfl)
  have n5 : m2.size < k3.size := by omega
  have n6 : m2.size + 1 < k3.size := by omega
  have r3 : (k3.ro ≤ k3.size) = True := eq_true (by omega)
  have hbase : 0 ≤ V.2.1.1.1 := (u64_bounds xb2).1
  have hprev : 0 ≤ prevI M := (u64_bounds yb5).1
  by_cases hE : f26e V M = 0
  case neg =>
    have hE' : (f26e V M = 0) = False := eq_false hE
    have hz : f26c V M = zC := by
      unfold f26c
      unfold f26e at hE
      by_cases k1 : f15 V = 0
      · rw [if_pos k1] at hE ⊢
        by_cases k2 : f29 M = true
        · rw [if_pos k2] at hE; exact absurd rfl hE
        · rw [if_neg k2]
      · rw [if_neg k1]
    rw [hz] at hC hCC hw ow ⊢
    simp (maxDischargeDepth := 16) only [z05, z08, z09, z0a, z0b, z0d, z0e, z0f, z0o, z0p, z0q, z0r, z0s, z0t, z0u, z0v, z0w, z0z, z10, z11, z12, z13, z16, z1a, z1e, z1f, z1g, z1p, z1r, z1v, z1w, z1x, z1y, z2b, z2c, z2o, z2t, z2w, z2x, z2y, z2z, z33, z34, z3b, z3c, z3f, z3k, z3p, z3q, z3s, z3v, z3w, z44, z45, z46, z49, z4c, z4e, z4f, z4g, z4h, z4i, z4m, z4n, z4o, z4p, z4q, z4r, z4z, z50, z51, z52, z53, z59, z5a, z5b, z5d, z5e, z5f, z72, z7o, Nat.reduceAdd, ↓reduceIte, yielded, Hp.cell, Hp.wr, tFieldAx72x1, tFieldAx72x2, tLenx34, tPartx22, tPartx34, tSizex72, tZerox72, r3, hE', zC]
    exact Al.done (hkm2.trans (kk3.trans (by repeat (first | assumption | exact Keeps.refl _ | refine Keeps.push ?_ _ | refine Keeps.set ?_ (by first | omega | (simp only [Hp.size_push, Hp.size_setB]; omega)) _)))) (by simp only [Hp.ro_setB, Hp.ro_push]; omega) rfl
  have hE' : (f26e V M = 0) = True := eq_true hE
  have h15 : f15 V = 0 := by
    unfold f26e at hE
    by_cases k1 : f15 V = 0
    · exact k1
    · rw [if_neg k1] at hE; exact hE
  have h29 : f29 M = true := by
    unfold f26e at hE
    rw [if_pos h15] at hE
    by_cases k2 : f29 M = true
    · exact k2
    · rw [if_neg k2] at hE; cases hE
  have hCa : f26c V M = accD V M := by unfold f26c; rw [if_pos h15, if_pos h29]
  rw [hCa] at hC hCC hw ow wb1 wb2 ⊢
  cases hOk : (accD V M).1 with
  | false =>
    obtain ⟨z1', z2'⟩ := put_not hOk
    simp (maxDischargeDepth := 16) only [z05, z08, z09, z0a, z0b, z0d, z0e, z0f, z0o, z0p, z0q, z0r, z0s, z0t, z0u, z0v, z0w, z0z, z10, z11, z12, z13, z14, z16, z1a, z1e, z1f, z1g, z1p, z1r, z1v, z1w, z1x, z1y, z2b, z2c, z2h, z2o, z2t, z2w, z2x, z2y, z2z, z33, z34, z3b, z3c, z3f, z3p, z3q, z3s, z3v, z3w, z44, z45, z46, z49, z4c, z4e, z4f, z4g, z4h, z4i, z4m, z4n, z4o, z4p, z4q, z4r, z4z, z50, z51, z52, z53, z54, z59, z5a, z5c, z5d, z5e, z5f, z72, z7o, Nat.reduceAdd, ↓reduceIte, yielded, Hp.cell, Hp.wr, tFieldAx72x0, tFieldAx72x1, tFieldAx72x2, tLenx34, tPartx4, tPartx22, tPartx34, tSizex72, tZerox72, r3, hE', z1', z2']
    exact Al.done (hkm2.trans (kk3.trans (by repeat (first | assumption | exact Keeps.refl _ | refine Keeps.push ?_ _ | refine Keeps.set ?_ (by first | omega | (simp only [Hp.size_push, Hp.size_setB]; omega)) _)))) (by simp only [Hp.ro_setB, Hp.ro_push]; omega) rfl
  | true =>
    obtain ⟨Lok, Lhave, Lbase, Llen, Lat, Lahead, Lagain⟩ := put_law h15 h29 hbase hprev hOk
    have hSw : Small (putD V (accD V M)) := small_put hSv hUm (acc_ents V M) Llen
    have hlC := acc_len V M
    have hb62 := (f15_zero h15).1
    have hlV := (f15_zero h15).2
    have hp62 := (f29_is h29).2
    have hl8 := (f29_is h29).1
    generalize accD V M = C at *
    simp (maxDischargeDepth := 16) only [z04, z08, z09, z0a, z0c, z0d, z0e, z0p, z0q, z0r, z0s, z0t, z0u, z0v, z0w, z0x, z0z, z10, z11, z12, z13, z14, z16, z1a, z1e, z1f, z1g, z1l, z1v, z1w, z1x, z1y, z2c, z2h, z2o, z2t, z2w, z2x, z2y, z2z, z33, z34, z35, z3b, z3h, z3p, z3q, z3v, z3w, z3x, z3y, z3z, z41, z43, z44, z45, z46, z49, z4c, z4e, z4f, z4g, z4h, z4i, z4j, z4k, z4l, z4m, z4n, z4o, z4p, z4q, z4r, z4s, z4u, z4v, z4z, z50, z51, z52, z53, z54, z59, z5a, z5c, z5e, z5f, z72, Nat.reduceAdd, Nat.reduceSub, ↓reduceIte, yielded, Hp.cell, Hp.row, Hp.wr, hasBx32, tFieldAx72x0, tPartx4, tPartx36, tPartx72, tSizex72, tZerox72, ow, r3, hE', g5, ne_f n5, ne_f0 n5, lt_t n5, lt_t0 n5]
    refine ex_ev (S := fun v k' => ∃ es', v = .tuple #[.agg es'.toArray, .bool true] ∧ R36.r false (· < k'.size) k' es' (putD V C) ∧ Keeps k3 k' ∧ k'.ro = k3.ro ∧ k3.size + 1 ≤ k'.size ∧ k'.get k3.size = some (.cells #[.bool true, .int .u64 C.2.1, .slice aw C.2.2.1.length cw, .int .u64 C.2.2.2] true)) (Al h _) (fun k0 hk0 => ?_) ?_
    · have sz0 : k0.size = k3.size + 1 := by rw [hk0]; simp only [Hp.size_setB, Hp.size_push]
      have ro0 : k0.ro = k3.ro := by rw [hk0]; simp only [Hp.ro_setB, Hp.ro_push]
      have kk0 : Keeps k3 k0 := by rw [hk0]; exact (by repeat (first | assumption | exact Keeps.refl _ | refine Keeps.push ?_ _ | refine Keeps.set ?_ (by first | omega | (simp only [Hp.size_push, Hp.size_setB]; omega)) _))
      have g7 : k0.get k3.size = some (.cells #[.bool true, .int .u64 C.2.1, .slice aw C.2.2.1.length cw, .int .u64 C.2.2.2] true) := by rw [hk0, get_set_self]
      rw [hOk] at hCC
      refine (Al.ex (run32 (I := IS6p) (N := N) (p := (· < k3.size)) rfl rfl rfl rfl (R36.mono hV (fun b hb => by omega) id ((kk3.trans kk0).fr fun _ h => h)) (R72.mono hCC (fun _ h => h) id (kk0.fr fun _ h => h)) (fun b hb => by omega) (by omega) hb62 (by omega) (by omega) (by omega))).mono ?_
      rintro v k' ⟨hk', hr', es', rfl, hR⟩
      have := hk'.size
      rw [Lok]
      exact ⟨es', rfl, hR, kk0.trans hk', by omega, by omega, (hk'.get _ (by omega)).trans g7⟩
    rintro _ k4 ⟨es', rfl, hW, kk4, ro4, s4, g7⟩
    generalize putD V C = W at *
    have hWW := hW
    obtain ⟨n1, n2, rfl, nb1, nb2, nb3, hn1', nb4, nb5, nb6, nb7, nb8, nb9, hn2'⟩ := R36_inv hW
    have on1 : oneC n1 = true := R25.rone hn1' n1 (by simp)
    have on2 : oneC n2 = true := R34.rone hn2' n2 (by simp)
    obtain ⟨an, cn, rfl, -, -⟩ := slice_form hn2'
    have g6' := (kk4.get _ n6).trans g6
    have g5' := (kk4.get _ n5).trans g5
    have n7 : k3.size < k4.size := by omega
    have n6' : m2.size + 1 < k4.size := by omega
    have n5' : m2.size < k4.size := by omega
    have r4 : (k4.ro ≤ k4.size) = True := eq_true (by omega)
    have wl : IntKind.u64.wrap ((entsY M).length : Int) = ((entsY M).length : Int) := u64_in (by omega) (by omega)
    have wp : IntKind.u64.wrap (M.2.2.2.2.1.1 + ((entsY M).length : Int)) = M.2.2.2.2.1.1 + ((entsY M).length : Int) := u64_in (by have : prevI M = M.2.2.2.2.1.1 := rfl; omega) (by have : prevI M = M.2.2.2.2.1.1 := rfl; omega)
    have Lh : C.2.2.2 = M.2.2.2.2.1.1 + ((entsY M).length : Int) := Lhave
    simp (maxDischargeDepth := 16) only [z04, z08, z09, z0a, z0c, z0d, z0e, z0p, z0q, z0r, z0s, z0t, z0u, z0v, z0w, z0z, z10, z11, z12, z13, z14, z15, z16, z1a, z1e, z1f, z1g, z1p, z1r, z1v, z1w, z1x, z1y, z24, z2c, z2h, z2o, z2t, z2w, z2x, z2y, z2z, z34, z35, z3b, z3p, z3v, z3w, z44, z45, z46, z49, z4c, z4e, z4f, z4g, z4h, z4i, z4m, z4n, z4o, z4p, z4q, z4r, z4z, z50, z51, z52, z53, z54, z59, z5a, z5c, z5e, z5f, z72, z7z, evalC_block, Nat.reduceAdd, ↓reduceIte, yielded, Hp.cell, Hp.wr, tFieldAx24x0, tFieldAx47x4, tFieldAx47x5, tFieldAx72x3, tIntx3x22, tLenx34, tPartx22, tPartx34, tSizex36, tZerox36, on1, on2, r4, g6', g7, ne_f n7, ne_f0 n7, lt_t n7, lt_t0 n7, ne_f n6', ne_f0 n6', lt_t n6', lt_t0 n6', wl, wp, Lh]
    have hkk : Keeps m2 k4 := kk3.trans kk4
    refine loop_rule (Al h _) (fun m x k => ∃ i : Nat, m = (entsY M).length - i ∧ i ≤ (entsY M).length ∧ Keeps k4 k ∧ k.ro = k4.ro ∧ k4.size < k.size ∧ k.get k4.size = some (.cells #[.int .u64 W.1, .int .u64 W.2.1.1.1, .int .u64 W.2.1.1.2, n1, .int .u32 W.2.1.2.2.1.1, .int .u64 W.2.1.2.2.1.2, .int .u32 W.2.1.2.2.2.1.1, .int .u64 W.2.1.2.2.2.1.2, .int .u32 W.2.1.2.2.2.2.1, .int .u64 W.2.1.2.2.2.2.2, .slice an W.2.2.length cn] true) ∧
      x.tmps.size = 174 ∧ x.defers = [] ∧ x.tmps.getD 5 undef = .pointer (some ⟨m2.size, 0, none⟩) ∧ x.tmps.getD 6 undef = .pointer (some ⟨m2.size + 1, 0, none⟩) ∧ x.tmps.getD 7 undef = .pointer (some ⟨k3.size, 0, none⟩) ∧ x.tmps.getD 9 undef = .pointer (some ⟨k4.size, 0, none⟩) ∧ x.tmps.getD 66 undef = .slice ay (entsY M).length cy ∧ x.tmps.getD 67 undef = .int .i64 ((entsY M).length : Int) ∧ x.tmps.getD 68 undef = .int .i64 (i : Int)) ?_ _ (entsY M).length _ _ ?_ ?_
    · intro m n' x k hI' ih
      obtain ⟨i, hm, hi, hk, hr, hz, g9, hxs, hxd, l5, l6, l7, l9, l66, l67, l68⟩ := hI'
      obtain ⟨g, rfl⟩ : ∃ g : Nat → Value, x = { tmps := #[g 0, g 1, g 2, g 3, g 4, .pointer (some ⟨m2.size, 0, none⟩), .pointer (some ⟨m2.size + 1, 0, none⟩), .pointer (some ⟨k3.size, 0, none⟩), g 8, .pointer (some ⟨k4.size, 0, none⟩), g 10, g 11, g 12, g 13, g 14, g 15, g 16, g 17, g 18, g 19, g 20, g 21, g 22, g 23, g 24, g 25, g 26, g 27, g 28, g 29, g 30, g 31, g 32, g 33, g 34, g 35, g 36, g 37, g 38, g 39, g 40, g 41, g 42, g 43, g 44, g 45, g 46, g 47, g 48, g 49, g 50, g 51, g 52, g 53, g 54, g 55, g 56, g 57, g 58, g 59, g 60, g 61, g 62, g 63, g 64, g 65, .slice ay (entsY M).length cy, .int .i64 ((entsY M).length : Int), .int .i64 (i : Int), g 69, g 70, g 71, g 72, g 73, g 74, g 75, g 76, g 77, g 78, g 79, g 80, g 81, g 82, g 83, g 84, g 85, g 86, g 87, g 88, g 89, g 90, g 91, g 92, g 93, g 94, g 95, g 96, g 97, g 98, g 99, g 100, g 101, g 102, g 103, g 104, g 105, g 106, g 107, g 108, g 109, g 110, g 111, g 112, g 113, g 114, g 115, g 116, g 117, g 118, g 119, g 120, g 121, g 122, g 123, g 124, g 125, g 126, g 127, g 128, g 129, g 130, g 131, g 132, g 133, g 134, g 135, g 136, g 137, g 138, g 139, g 140, g 141, g 142, g 143, g 144, g 145, g 146, g 147, g 148, g 149, g 150, g 151, g 152, g 153, g 154, g 155, g 156, g 157, g 158, g 159, g 160, g 161, g 162, g 163, g 164, g 165, g 166, g 167, g 168, g 169, g 170, g 171, g 172, g 173], defers := [] } := ⟨fun k => x.tmps.getD k undef, (act_eta hxs hxd).trans (by simp only [unrollL, Nat.reduceAdd, Nat.zero_add, l5, l6, l7, l9, l66, l67, l68])⟩; clear hxs hxd l5 l6 l7 l9 l66 l67 l68
      have hsk := hk.size
      have ePI : prevI M = M.2.2.2.2.1.1 := rfl
      by_cases hlt : i < (entsY M).length
      · have hlt' := lt_cast hlt
        obtain ⟨q1, q2, q3⟩ := dec_meas hlt hm
        have hii : (0 ≤ (i : Int)) = True := eq_true (by omega)
        have w3 := i64_succ (i := i) (by omega)
        have rk0 : (k.ro ≤ k.size) = True := eq_true (by omega)
        have wi : IntKind.u64.wrap (i : Int) = (i : Int) := u64_in (by omega) (by omega)
        have wpi : IntKind.u64.wrap (M.2.2.2.2.1.1 + (i : Int)) = M.2.2.2.2.1.1 + (i : Int) := u64_in (by omega) (by omega)
        obtain ⟨e, he⟩ : ∃ e, (entsY M)[i]? = some e := ⟨_, List.getElem?_eq_getElem hlt⟩
        obtain ⟨bm, offm, _, cellsm, owm, partm, ee, hbm, hgm, -, hpm, hlem, hexm, -⟩ := elem_at (s := 4) hy1 he rfl (by decide)
        cases ee
        have hpm0 := hpm
        obtain ⟨em, rfl, -, -, -, hem⟩ := R85_inv hpm
        have oem : oneC em = true := R43.rone hem em (by simp)
        have hgm' := (hk.get bm (by omega)).trans ((hkk.get bm hbm).trans hgm)
        have hbmk : bm < k.size := by omega
        have g6k := (hk.get _ n6').trans g6'
        have n6k : m2.size + 1 < k.size := by omega
        simp (maxDischargeDepth := 16) only [z04, z08, z09, z0a, z0b, z0d, z0e, z0p, z0q, z0s, z0t, z0u, z0v, z0z, z10, z11, z13, z15, z16, z18, z1e, z1f, z1g, z1v, z1w, z1x, z1z, z24, z2d, z2o, z2u, z2w, z2x, z2y, z2z, z34, z35, z3a, z3b, z3p, z3v, z3w, z44, z45, z46, z49, z4c, z4e, z4f, z4g, z4h, z4i, z4m, z4n, z4o, z4p, z4q, z4r, z4z, z50, z51, z53, z54, z5a, z5f, z72, z7t, z7z, evalC_block, Nat.reduceAdd, ↓reduceIte, Hp.cell, Hp.row, Hp.wr, tElemx34, tFieldAx24x0, tFieldAx47x4, tIntx3x22, tPartx22, tPartx85, tSizex85, tZerox85, hlt', hii, hgm', ne_f hbmk, ne_f0 hbmk, lt_t hbmk, lt_t0 hbmk, hlem, hexm, Int.toNat_natCast, rk0, oem, g6k, ne_f n6k, ne_f0 n6k, lt_t n6k, lt_t0 n6k, wi, wpi]
        by_cases c1 : W.2.1.1.1 ≤ M.2.2.2.2.1.1 + (i : Int)
        · have c1' : (W.2.1.1.1 ≤ M.2.2.2.2.1.1 + (i : Int)) = True := eq_true c1
          obtain ⟨la1, la2⟩ := Lat i hlt (by rw [← Lbase.2]; exact c1)
          rw [he, ← Lbase.2] at la2
          obtain ⟨q, hq⟩ : ∃ q : Nat, M.2.2.2.2.1.1 + (i : Int) - W.2.1.1.1 = (q : Int) := ⟨_, (Int.toNat_of_nonneg (by omega)).symm⟩
          rw [ePI, hq, Int.toNat_natCast] at la2
          have c2 : (f55 W ≤ M.2.2.2.2.1.1 + (i : Int)) = False := eq_false (by omega)
          have nbW := u64_bounds nb2
          have vn1 := fun kept bits => vb_old (s0 := k.size + 1) (kept := kept) (bits := bits) (vin_mono (fun b hb => by omega) (R25.rvin hn1' n1 (by simp)))
          have vn2 := fun kept bits => vb_old (s0 := k.size + 1) (kept := kept) (bits := bits) (vin_mono (fun b hb => by omega) (R34.rvin hn2' _ (List.mem_singleton.2 rfl)))
          have wq : IntKind.u64.wrap (M.2.2.2.2.1.1 + (i : Int) - W.2.1.1.1) = (q : Int) := by rw [u64_in (by omega) (by omega)]; exact hq
          obtain ⟨bn, offn, _, cellsn, own', partn, ee, hbn, hgn, -, hpn, hlen', hexn, -⟩ := elem_at (s := 4) hn2' la2 rfl (by decide)
          cases ee
          have hpn0 := hpn
          obtain ⟨en, rfl, -, -, -, hen⟩ := R85_inv hpn
          have oen : oneC en = true := R43.rone hen en (by simp)
          have hgn' := (hk.get bn hbn).trans hgn
          have hbnk : bn < k.size := by omega
          have hqn : q < W.2.2.length := (List.getElem?_eq_some_iff.1 la2).1
          have hqq : (0 ≤ (q : Int)) = True := eq_true (by omega)
          have hqn' := lt_cast hqn
          have ven := fun kept bits => vb_old (s0 := k.size + 1) (kept := kept) (bits := bits) (vin_mono (fun b hb => by omega) (R43.rvin hen en (by simp)))
          have vem := fun kept bits => vb_old (s0 := k.size + 1) (kept := kept) (bits := bits) (vin_mono (fun b hb => by omega) (R43.rvin hem em (by simp)))
          have c33 := call_rdk (P := Try.prog) (A := A36) (I := IS6p) (f := 33) (spec := fun x => .int .u64 (f55 x.1)) rfl N (show A36.r (· < k.size) k [_] (W, ()) from ⟨_, _, rfl, R36.mono hWW (fun b hb => by omega) id (hk.fr fun _ h => h), rfl⟩) (by omega)
          have c34 := call_rdk (P := Try.prog) (A := A85) (I := IS6p) (f := 34) (spec := fun x => .bool (decide (x.1 = x.2.1))) rfl N (show A85.r (· < k.size) k [_, _] (e, e, ()) from ⟨_, _, rfl, R85.mono hpn0 (fun b hb => by omega) id (hk.fr fun _ h => h), _, _, rfl, R85.mono hpm0 (fun b hb => by omega) id ((hkk.trans hk).fr fun _ h => h), rfl⟩) (by omega)
          rw [evalDraw_modes _ _ [(0, 0, 1), (0, 0, 2), (0, 2, 6), (0, 6, 14), (1, 14, 30), (0, 31, 63), (0, 63, 127), (0, 127, 255), (1, 127, 383), (1, 383, 895), (0, 1023, 2047), (0, 2047, 4095), (0, 4095, 8191), (2, 8191, 16383), (0, 4095, 20479), (0, 4095, 36863), (0, 36863, 102399), (0, 102399, 233471), (2, 233471, 495615), (0, 511999, 1036287), (0, 1048575, 2097151), (2, 2097151, 4194303), (2, 4095, 4198399), (4, 8388607, 16777215), (0, 16777215, 33554431), (0, 33554431, 67108863), (0, 67108863, 134217727)] (by kernel_rfl)]
          simp (maxDischargeDepth := 16) only [z04, z08, z0a, z0c, z0d, z0e, z0h, z0k, z0p, z0q, z0s, z0t, z0v, z0w, z0x, z0z, z10, z12, z13, z14, z16, z18, z1e, z1l, z1v, z1y, z1z, z24, z25, z2g, z2h, z2u, z2w, z2x, z33, z34, z35, z3a, z3b, z3h, z3x, z3y, z3z, z41, z43, z44, z45, z46, z4a, z4b, z4e, z4f, z4g, z4h, z4i, z4j, z4k, z4l, z4m, z4n, z4o, z4p, z4q, z4r, z4s, z4u, z4v, z4z, z50, z51, z52, z53, z54, z59, z5a, z5b, z5c, z5e, z5f, z5j, z5k, z5l, z5n, z5t, z5u, z5w, z5y, z60, z61, z62, z63, z6a, z6d, z6g, z6h, z6j, z6p, z6t, z6v, z6x, z70, z71, z7v, z7w, z7x, z7y, z8g, Nat.reduceAdd, Nat.reduceSub, ↓reduceIte, yielded, keepR, Hp.cell, Hp.row, hasBx33, hasBx34, tElemx34, tFieldAx24x0, tFieldAx33x0, tFieldAx36x1, tFieldAx36x2, tPartx22, tPartx34, tPartx36, tPartx85, g9, ne_f hz, ne_f0 hz, lt_t hz, lt_t0 hz, c1', c2, wq, c33, c34, hqq, hqn', Int.toNat_natCast, hgn', ne_f hbnk, ne_f0 hbnk, lt_t hbnk, lt_t0 hbnk, hlen', hexn, vn1, vn2, ven, vem, w3]
          exact ih (m - 1) _ _ q1 ⟨i + 1, q2, q3, hk.trans (by repeat (first | assumption | exact Keeps.refl _ | refine Keeps.push ?_ _ | refine Keeps.set ?_ (by first | omega | (simp only [Hp.size_push, Hp.size_setB]; omega)) _)), by simp only [Hp.ro_setB, Hp.ro_push]; exact hr, by simp only [Hp.size_setB, Hp.size_push]; omega, by rw [get_set_ne (by omega), get_push_ne (by omega)]; exact g9, rfl, rfl, rfl, rfl, rfl, rfl, rfl, rfl, rfl⟩
        · have c1' : (W.2.1.1.1 ≤ M.2.2.2.2.1.1 + (i : Int)) = False := eq_false c1
          rw [evalDraw_modes _ _ [(0, 0, 1), (0, 0, 2), (0, 2, 6), (0, 6, 14), (1, 14, 30), (0, 31, 63), (0, 63, 127), (0, 127, 255), (1, 127, 383), (1, 383, 895), (0, 1023, 2047), (0, 2047, 4095), (0, 4095, 8191), (2, 8191, 16383), (0, 4095, 20479), (0, 4095, 36863), (0, 36863, 102399), (0, 102399, 233471), (2, 233471, 495615), (0, 511999, 1036287), (0, 1048575, 2097151), (2, 2097151, 4194303), (2, 4095, 4198399), (4, 8388607, 16777215), (0, 16777215, 33554431), (0, 33554431, 67108863), (0, 67108863, 134217727)] (by kernel_rfl)]
          simp (maxDischargeDepth := 16) only [z04, z08, z0a, z0c, z0d, z0e, z0h, z0k, z0p, z0q, z0s, z0t, z0v, z0w, z0z, z10, z12, z13, z16, z1e, z1v, z1y, z24, z2g, z2w, z2x, z34, z35, z3b, z3l, z3o, z46, z4a, z4b, z4e, z4f, z4g, z4h, z4i, z4m, z4n, z4o, z50, z51, z52, z53, z54, z59, z5a, z5b, z5j, z5n, z5t, z5u, z5w, z5y, z60, z61, z62, z63, z6a, z6h, z6j, z6t, z6v, z6x, z70, z71, z8g, Nat.reduceAdd, ↓reduceIte, yielded, keepR, Hp.cell, tFieldAx24x0, tFieldAx33x0, tFieldAx36x1, tPartx22, g9, ne_f hz, ne_f0 hz, lt_t hz, lt_t0 hz, c1', w3, guU]
          exact ih (m - 1) _ _ q1 ⟨i + 1, q2, q3, hk.trans (by repeat (first | assumption | exact Keeps.refl _ | refine Keeps.push ?_ _ | refine Keeps.set ?_ (by first | omega | (simp only [Hp.size_push, Hp.size_setB]; omega)) _)), by simp only [Hp.ro_setB, Hp.ro_push]; exact hr, by simp only [Hp.size_setB, Hp.size_push]; omega, by rw [get_set_ne (by omega), get_push_ne (by omega)]; exact g9, rfl, rfl, rfl, rfl, rfl, rfl, rfl, rfl, rfl⟩
      · have hlt' := nlt_cast hlt
        obtain rfl : i = (entsY M).length := by omega
        have nbW := u64_bounds nb2
        have g6k := (hk.get _ n6').trans g6'
        have n6k : m2.size + 1 < k.size := by omega
        simp (maxDischargeDepth := 16) only [z06, z08, z09, z0a, z0c, z0d, z0e, z0g, z0j, z0m, z0p, z0q, z0s, z0t, z0v, z0z, z11, z13, z16, z1e, z1v, z2d, z2w, z2x, z3b, z4e, z4f, z4g, z4h, z4i, z4m, z4n, z4o, z50, z51, z53, z54, z5b, evalC_block, ↓reduceIte, Hp.cell, tFieldAx24x0, tFieldAx33x0, tFieldAx36x1, tPartx22, hlt', g9, ne_f hz, ne_f0 hz, lt_t hz, lt_t0 hz]
        obtain ⟨P, hP⟩ : ∃ P : Nat, P = (M.2.2.2.2.1.1 - W.2.1.1.1).toNat := ⟨_, rfl⟩
        have hP40 : P ≤ 40 := by
          rcases Nat.eq_zero_or_pos P with h0 | h0
          · omega
          · have := (Lahead (P - 1) (by rw [← Lbase.2]; omega)).1
            omega
        refine loop_rule (Al h _) (fun m x k' => ∃ (j : Nat) (z : Int), m = P - j ∧ j ≤ P ∧ k' = k ∧ z = W.2.1.1.1 + (j : Int) ∧
          x.tmps.size = 174 ∧ x.defers = [] ∧ x.tmps.getD 5 undef = .pointer (some ⟨m2.size, 0, none⟩) ∧ x.tmps.getD 6 undef = .pointer (some ⟨m2.size + 1, 0, none⟩) ∧ x.tmps.getD 7 undef = .pointer (some ⟨k3.size, 0, none⟩) ∧ x.tmps.getD 9 undef = .pointer (some ⟨k4.size, 0, none⟩) ∧ x.tmps.getD 14 undef = .int .u64 z) ?_ _ P _ _ ?_ ?_
        · intro m n' x k' hI' ih2
          obtain ⟨j, z, hm, hj, hkk', hzj, hxs, hxd, l5, l6, l7, l9, l14⟩ := hI'
          subst hkk'
          obtain ⟨g, rfl⟩ : ∃ g : Nat → Value, x = { tmps := #[g 0, g 1, g 2, g 3, g 4, .pointer (some ⟨m2.size, 0, none⟩), .pointer (some ⟨m2.size + 1, 0, none⟩), .pointer (some ⟨k3.size, 0, none⟩), g 8, .pointer (some ⟨k4.size, 0, none⟩), g 10, g 11, g 12, g 13, .int .u64 z, g 15, g 16, g 17, g 18, g 19, g 20, g 21, g 22, g 23, g 24, g 25, g 26, g 27, g 28, g 29, g 30, g 31, g 32, g 33, g 34, g 35, g 36, g 37, g 38, g 39, g 40, g 41, g 42, g 43, g 44, g 45, g 46, g 47, g 48, g 49, g 50, g 51, g 52, g 53, g 54, g 55, g 56, g 57, g 58, g 59, g 60, g 61, g 62, g 63, g 64, g 65, g 66, g 67, g 68, g 69, g 70, g 71, g 72, g 73, g 74, g 75, g 76, g 77, g 78, g 79, g 80, g 81, g 82, g 83, g 84, g 85, g 86, g 87, g 88, g 89, g 90, g 91, g 92, g 93, g 94, g 95, g 96, g 97, g 98, g 99, g 100, g 101, g 102, g 103, g 104, g 105, g 106, g 107, g 108, g 109, g 110, g 111, g 112, g 113, g 114, g 115, g 116, g 117, g 118, g 119, g 120, g 121, g 122, g 123, g 124, g 125, g 126, g 127, g 128, g 129, g 130, g 131, g 132, g 133, g 134, g 135, g 136, g 137, g 138, g 139, g 140, g 141, g 142, g 143, g 144, g 145, g 146, g 147, g 148, g 149, g 150, g 151, g 152, g 153, g 154, g 155, g 156, g 157, g 158, g 159, g 160, g 161, g 162, g 163, g 164, g 165, g 166, g 167, g 168, g 169, g 170, g 171, g 172, g 173], defers := [] } := ⟨fun k => x.tmps.getD k undef, (act_eta hxs hxd).trans (by simp only [unrollL, Nat.reduceAdd, Nat.zero_add, l5, l6, l7, l9, l14])⟩; clear hxs hxd l5 l6 l7 l9 l14
          by_cases hlt : j < P
          · have hjp : z < M.2.2.2.2.1.1 := by omega
            have hjp' : (z < M.2.2.2.2.1.1) = True := eq_true hjp
            obtain ⟨la1, la2⟩ := Lahead j (by rw [← Lbase.2, ← hzj]; exact hjp)
            obtain ⟨e, he⟩ : ∃ e, V.2.2[j]? = some e := ⟨_, List.getElem?_eq_getElem la1⟩
            rw [he] at la2
            have wj : IntKind.u64.wrap (z - W.2.1.1.1) = (j : Int) := by rw [u64_in (by omega) (by omega)]; omega
            have wz : IntKind.u64.wrap (z + 1) = z + 1 := u64_in (by omega) (by omega)
            obtain ⟨bn, offn, _, cellsn, own', partn, ee, hbn, hgn, -, hpn, hlen', hexn, -⟩ := elem_at (s := 4) hn2' la2 rfl (by decide)
            cases ee
            obtain ⟨bm, offm, _, cellsm, owm, partm, ee, hbm, hgm, -, hpm, hlem, hexm, -⟩ := elem_at (s := 4) hx2 he rfl (by decide)
            cases ee
            have hpn0 := hpn
            have hpm0 := hpm
            obtain ⟨en, rfl, -, -, -, hen⟩ := R85_inv hpn
            obtain ⟨em, rfl, -, -, -, hem⟩ := R85_inv hpm
            have oen : oneC en = true := R43.rone hen en (by simp)
            have oem : oneC em = true := R43.rone hem em (by simp)
            have hgn' := (hk.get bn hbn).trans hgn
            have hgm' := (hk.get bm (by omega)).trans ((hkk.get bm hbm).trans hgm)
            have hbnk : bn < k'.size := by omega
            have hbmk : bm < k'.size := by omega
            have g5k := (hk.get _ n5').trans g5'
            have n5k : m2.size < k'.size := by omega
            have hqn : j < W.2.2.length := (List.getElem?_eq_some_iff.1 la2).1
            have hqq : (0 ≤ (j : Int)) = True := eq_true (by omega)
            have hqn' := lt_cast hqn
            have hqm' := lt_cast la1
            have vn2 := fun kept bits => vb_old (s0 := k'.size) (kept := kept) (bits := bits) (vin_mono (fun b hb => by omega) (R34.rvin hn2' _ (List.mem_singleton.2 rfl)))
            have vx2 := fun kept bits => vb_old (s0 := k'.size) (kept := kept) (bits := bits) (vin_mono (fun b hb => by omega) (R34.rvin hx2 _ (List.mem_singleton.2 rfl)))
            have ven := fun kept bits => vb_old (s0 := k'.size) (kept := kept) (bits := bits) (vin_mono (fun b hb => by omega) (R43.rvin hen en (by simp)))
            have vem := fun kept bits => vb_old (s0 := k'.size) (kept := kept) (bits := bits) (vin_mono (fun b hb => by omega) (R43.rvin hem em (by simp)))
            have c34 := call_rdk (P := Try.prog) (A := A85) (I := IS6p) (f := 34) (spec := fun x => .bool (decide (x.1 = x.2.1))) rfl N (show A85.r (· < k'.size) k' [_, _] (e, e, ()) from ⟨_, _, rfl, R85.mono hpn0 (fun b hb => by omega) id (hk.fr fun _ h => h), _, _, rfl, R85.mono hpm0 (fun b hb => by omega) id ((hkk.trans hk).fr fun _ h => h), rfl⟩) (by omega)
            simp (maxDischargeDepth := 16) only [z04, z08, z09, z0a, z0b, z0d, z0e, z0p, z0q, z0s, z0t, z0v, z0z, z10, z13, z16, z1e, z1v, z2d, z2w, z2x, z3b, z4e, z4f, z4g, z4h, z4i, z4m, z4n, z4o, z50, z51, z53, z54, z5a, z7t, evalC_block, Hp.cell, tFieldAx24x0, tFieldAx47x4, tPartx22, g6k, ne_f n6k, ne_f0 n6k, lt_t n6k, lt_t0 n6k, ne_f hz, ne_f0 hz, lt_t hz, lt_t0 hz, hjp']
            rw [evalDraw_modes _ _ [(0, 0, 1), (2, 1, 3), (0, 0, 4), (0, 0, 8), (0, 8, 24), (0, 24, 56), (2, 56, 120), (0, 124, 252), (0, 255, 511), (2, 511, 1023), (0, 0, 1024), (2, 1024, 3072), (0, 0, 4096), (0, 0, 8192), (0, 8192, 24576), (0, 24576, 57344), (2, 57344, 122880), (0, 126976, 258048), (0, 261120, 523264), (2, 523264, 1047552), (4, 1048575, 2097151), (0, 2097151, 4194303)] (by kernel_rfl)]
            simp (maxDischargeDepth := 16) only [z04, z08, z0a, z0c, z0d, z0e, z0h, z0k, z0p, z0q, z0s, z0t, z0v, z0w, z0x, z0z, z10, z11, z13, z14, z16, z18, z1e, z1l, z1v, z1z, z24, z25, z2h, z2u, z2w, z2x, z3a, z3b, z3h, z44, z45, z46, z4e, z4f, z4g, z4h, z4i, z4j, z4k, z4l, z4m, z4n, z4o, z4p, z4q, z4r, z4s, z4u, z4v, z4z, z50, z51, z53, z54, z5a, z5c, z5f, z5j, z5k, z5l, z5t, z5u, z5x, z62, z63, z6a, z6d, z6g, z6h, z6j, z6p, z6t, z6v, z6x, z70, z71, z7v, z8d, Nat.reduceAdd, ↓reduceIte, keepR, Hp.cell, Hp.row, hasBx34, tElemx34, tFieldAx24x0, tFieldAx33x0, tFieldAx36x1, tFieldAx36x2, tPartx22, tPartx34, tPartx85, g9, ne_f hz, ne_f0 hz, lt_t hz, lt_t0 hz, g5k, ne_f n5k, ne_f0 n5k, lt_t n5k, lt_t0 n5k, wj, hqq, hqn', hqm', Int.toNat_natCast, hgn', hgm', ne_f hbnk, ne_f0 hbnk, lt_t hbnk, lt_t0 hbnk, ne_f hbmk, ne_f0 hbmk, lt_t hbmk, lt_t0 hbmk, hlen', hexn, hlem, hexm, vn2, vx2, ven, vem, c34, wz]
            exact ih2 (m - 1) _ _ (by omega) ⟨j + 1, z + 1, by omega, by omega, rfl, by omega, rfl, rfl, rfl, rfl, rfl, rfl, rfl⟩
          · have hjp' : (z < M.2.2.2.2.1.1) = False := eq_false (by omega)
            have hSW : Small W := hSw
            simp (maxDischargeDepth := 16) only [z06, z08, z09, z0a, z0c, z0d, z0e, z0g, z0j, z0m, z0p, z0q, z0s, z0t, z0v, z0x, z0z, z10, z13, z16, z1e, z1l, z1v, z2d, z2w, z2x, z3b, z3h, z3x, z3y, z3z, z41, z43, z46, z4e, z4f, z4g, z4h, z4i, z4j, z4k, z4l, z4m, z4n, z4o, z4p, z4q, z4r, z4s, z4u, z4v, z4z, z50, z51, z53, z54, z5b, Nat.reduceAdd, Nat.reduceSub, ↓reduceIte, Hp.cell, Hp.row, hasBx26, tFieldAx24x0, tFieldAx47x4, tPartx22, tPartx36, tPartx47, g6k, ne_f n6k, ne_f0 n6k, lt_t n6k, lt_t0 n6k, g9, ne_f hz, ne_f0 hz, lt_t hz, lt_t0 hz, hjp']
            refine ex_any (Al h _) (Al.ex (run26 (I := IS6p) (N := N) (p := (· < k'.size)) rfl rfl rfl rfl rfl rfl rfl rfl rfl rfl (R36.mono hWW (fun b hb => by omega) id (hk.fr fun _ h => h)) (R47.mono hM (fun b hb => by omega) id ((hkk.trans hk).fr fun _ h => h)) (fun b hb => hb) (by omega) hSW (by omega) (fun e he => by have := hUm e he; omega) (by omega))) ?_
            rintro _ k6 ⟨hk6, hr6, es6, rfl, hR6⟩
            have hsk6 := hk6.size
            have r6 : (k6.ro ≤ k6.size) = True := eq_true (by omega)
            have g96 := (hk6.get _ hz).trans g9
            have g76 := (hk6.get _ (show k3.size < k'.size by omega)).trans ((hk.get _ n7).trans g7)
            have n96 : k4.size < k6.size := by omega
            have n76 : k3.size < k6.size := by omega
            have fin : ∀ k8 : Hp, Keeps k6 k8 → k8.ro = k6.ro → Keeps h k8 ∧ k8.ro = h.ro := fun k8 h1 h2 => ⟨hkm2.trans (hkk.trans (hk.trans (hk6.trans h1))), by omega⟩
            by_cases h15W : f15 W = 0
            · have e6 : f26e W M = 0 := by unfold f26e; rw [if_pos h15W, if_pos h29]
              have c6 : f26c W M = (true, 0, [], C.2.2.2) := by unfold f26c; rw [if_pos h15W, if_pos h29]; exact Lagain h15W
              rw [c6] at hR6
              obtain ⟨w6, rfl, -, hw6, -⟩ := R72_inv hR6
              have ow6 := (Rp.slice R85).rone hw6 w6 (by simp)
              simp (maxDischargeDepth := 16) only [z05, z08, z09, z0d, z0e, z0o, z0p, z0q, z0r, z0s, z0t, z0u, z0v, z0w, z0z, z10, z11, z12, z13, z16, z1a, z1e, z1f, z1g, z1v, z1w, z1x, z1y, z2b, z2c, z2o, z2t, z2w, z2x, z2y, z2z, z33, z34, z35, z3b, z3c, z3f, z3l, z3p, z3q, z3v, z3w, z44, z45, z46, z49, z4c, z4e, z4f, z4g, z4h, z4i, z4m, z4n, z4o, z4p, z4q, z4r, z4z, z50, z51, z52, z53, z54, z59, z5a, z5c, z5e, z5f, z72, Nat.reduceAdd, ↓reduceIte, yielded, Hp.cell, Hp.wr, tFieldAx72x0, tFieldAx72x1, tFieldAx72x3, tPartx4, tPartx22, tSizex72, tZerox72, ow6, r6, e6, g76, ne_f n96, ne_f0 n96, lt_t n96, lt_t0 n96, ne_f n76, ne_f0 n76, lt_t n76, lt_t0 n76]
              exact Al.done (fin _ (by repeat (first | assumption | exact Keeps.refl _ | refine Keeps.push ?_ _ | refine Keeps.set ?_ (by first | omega | (simp only [Hp.size_push, Hp.size_setB]; omega)) _)) (by simp only [Hp.ro_setB, Hp.ro_push])).1 (fin _ (by repeat (first | assumption | exact Keeps.refl _ | refine Keeps.push ?_ _ | refine Keeps.set ?_ (by first | omega | (simp only [Hp.size_push, Hp.size_setB]; omega)) _)) (by simp only [Hp.ro_setB, Hp.ro_push])).2 rfl
            · have e6 : (f26e W M = 0) = False := by
                have : f26e W M = f15 W := by unfold f26e; rw [if_neg h15W]
                rw [this]; exact eq_false h15W
              have h40 : (40 < (W.2.2.length : Int)) = True := by
                refine eq_true ?_
                unfold f15 at h15W
                split at h15W
                · have hWV : W.2.1.1.1 = V.2.1.1.1 := by rw [Lbase.2]
                  omega
                · split at h15W
                  · assumption
                  · exact absurd rfl h15W
              have c6 : f26c W M = zC := by unfold f26c; rw [if_neg h15W]
              rw [c6] at hR6
              obtain ⟨w6, rfl, -, hw6, -⟩ := R72_inv hR6
              have ow6 := (Rp.slice R85).rone hw6 w6 (by simp)
              simp (maxDischargeDepth := 16) only [z05, z08, z09, z0d, z0e, z0o, z0p, z0q, z0r, z0s, z0t, z0u, z0v, z0w, z0z, z10, z11, z12, z13, z16, z1a, z1e, z1f, z1g, z1p, z1r, z1v, z1w, z1x, z1y, z2c, z2f, z2o, z2t, z2w, z2x, z2y, z2z, z34, z35, z3b, z3c, z3f, z3k, z3n, z3p, z3q, z3v, z3w, z44, z45, z46, z49, z4c, z4e, z4f, z4g, z4h, z4i, z4m, z4n, z4o, z4p, z4q, z4r, z4z, z50, z51, z52, z53, z59, z5a, z5b, z5d, z5e, z5f, z72, Nat.reduceAdd, ↓reduceIte, yielded, Hp.cell, Hp.wr, tFieldAx36x2, tLenx34, tPartx34, tSizex72, tZerox72, ow6, r6, e6, h40, g96, ne_f n96, ne_f0 n96, lt_t n96, lt_t0 n96, ne_f n76, ne_f0 n76, lt_t n76, lt_t0 n76, guU, zC]
              exact Al.done (fin _ (by repeat (first | assumption | exact Keeps.refl _ | refine Keeps.push ?_ _ | refine Keeps.set ?_ (by first | omega | (simp only [Hp.size_push, Hp.size_setB]; omega)) _)) (by simp only [Hp.ro_setB, Hp.ro_push])).1 (fin _ (by repeat (first | assumption | exact Keeps.refl _ | refine Keeps.push ?_ _ | refine Keeps.set ?_ (by first | omega | (simp only [Hp.size_push, Hp.size_setB]; omega)) _)) (by simp only [Hp.ro_setB, Hp.ro_push])).2 rfl
        · omega
        · exact ⟨0, W.2.1.1.1, by omega, by omega, rfl, by omega, rfl, rfl, rfl, rfl, rfl, rfl, rfl⟩
    · omega
    · exact ⟨0, by omega, by omega, (by repeat (first | assumption | exact Keeps.refl _ | refine Keeps.push ?_ _ | refine Keeps.set ?_ (by first | omega | (simp only [Hp.size_push, Hp.size_setB]; omega)) _)), by simp only [Hp.ro_setB, Hp.ro_push], by simp only [Hp.size_setB, Hp.size_push]; omega, get_set_self, rfl, rfl, rfl, rfl, rfl, rfl, rfl, rfl, rfl⟩
end Go.Abs.B1
