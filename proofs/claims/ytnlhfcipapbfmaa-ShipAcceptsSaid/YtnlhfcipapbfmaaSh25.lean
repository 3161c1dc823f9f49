/- ShipAccepts, run. -/
import Derived.Test.YtnlhfcipapbfmaaSh24
import Derived.Test.YtnlhfcipapbfmaaSh20
namespace Go.Abs.B1
open Go.Proofs
set_option maxRecDepth 10000
set_option maxHeartbeats 4000000
set_option linter.all false
noncomputable def TS25 : TB := [(12, g12), (14, g14), (15, g15), (55, g55), (57, g57), (68, g68), (27, g27), (29, g29), (31, g31), (28, g28), (18, g18), (19, g19), (59, g59), (63, g63), (22, g22)]
noncomputable abbrev IS25 : Intr := fun f => TS25.lookup f
theorem okS25 : IntrOk Try.prog (CKb Try.prog) IS25 := Con.table fun x hx => by
  simp only [TS25, List.mem_cons, List.not_mem_nil, or_false] at hx
  rcases hx with rfl | rfl | rfl | rfl | rfl | rfl | rfl | rfl | rfl | rfl | rfl | rfl | rfl | rfl | rfl
  · exact con12
  · exact con14
  · exact con15
  · exact con55
  · exact con57
  · exact con68
  · exact con27
  · exact con29
  · exact con31
  · exact con28
  · exact con18
  · exact con19
  · exact con59
  · exact con63
  · exact con22
theorem run5 (h : Hp) (cs : List Value) (v : Value) (x : T36) (ns : T70) (r : R36.r false (· < h.size) h cs x) (rn : R70.r false (· < h.size) h [v] ns) (hro : h.ro ≤ h.size) : ∃ N, Al h (fun _ w => w = .bool true) (evalV Try.prog IS25 N (.fn 5) #[.agg cs.toArray, v] h) := by
  obtain ⟨a, c, rfl, -, hl⟩ := slice_form rn
  unfold capOpen at hl
  have hlenb : ∃ M, ∀ x ∈ ns, (entsY x).length ≤ M := by
    clear rn hl
    induction ns with
    | nil => exact ⟨0, by simp⟩
    | cons x xs ih =>
      obtain ⟨M, hM⟩ := ih
      exact ⟨max M (entsY x).length, fun y hy => by
        rcases List.mem_cons.1 hy with rfl | hy
        · omega
        · have := hM y hy; omega⟩
  obtain ⟨M, hM⟩ := hlenb
  obtain ⟨N, hN⟩ : ∃ N, N = ns.length + x.2.2.length + M + 2000 := ⟨_, rfl⟩
  refine ⟨N + 1, ?_⟩
  have r0 := r
  obtain ⟨v1, v2, rfl, b1, b2, b3, hv1, b4, b5, b6, b7, b8, b9, hv2⟩ := R36_inv r
  have vo1 := fun kept bits => vb_old (s0 := h.size + 1) (kept := kept) (bits := bits) (vin_mono (fun b hb => by omega) (R25.rvin hv1 v1 (List.mem_singleton.2 rfl)))
  have vo2 := fun kept bits => vb_old (s0 := h.size + 1) (kept := kept) (bits := bits) (vin_mono (fun b hb => by omega) (R34.rvin hv2 v2 (List.mem_singleton.2 rfl)))
  rw [evalV_call (P := Try.prog) (intr := IS25) (f := 5) (m := 128) (rs := #[.tmp 4]) rfl Try.func5 rfl rfl rfl]
  have c12 : ∀ n k, evalV Try.prog IS25 (n + 1) (.fn 12) #[] k = some (.bool true, k) := fun n k => (evalV_intr (g := g12) rfl).trans rfl
  have c12' : ∀ k, evalV Try.prog IS25 N (.fn 12) #[] k = some (.bool true, k) := fun k => by obtain ⟨n, rfl⟩ : ∃ n, N = n + 1 := ⟨N - 1, by omega⟩; exact c12 _ k
  simp (maxDischargeDepth := 16) only [z04, z08, z09, z0a, z0c, z0d, z0e, z0p, z0q, z0s, z0t, z0v, z0w, z0x, z0z, z11, z14, z1h, z1l, z2h, z2o, z3b, z3h, z4e, z4f, z4g, z4h, z4i, z4j, z4l, z4p, z4q, z4r, z4s, z4t, z4u, z4v, z4w, z4x, z4y, z53, z5c, z7t, Nat.reduceAdd, Nat.reduceSub, ↓reduceIte, hasBx12, c12']
  rw [evalDraw_modes _ _ [(2, 0, 1), (2, 1, 3), (2, 0, 4), (2, 7, 15), (2, 0, 16), (2, 0, 32), (1, 63, 127), (1, 127, 255)] (by kernel_rfl)]
  simp (maxDischargeDepth := 16) only [z0t, z0v, z0x, z0z, z1e, z1l, z1v, z2x, z34, z3b, z3h, z3x, z3y, z3z, z41, z43, z44, z45, z46, z4a, z4e, z4f, z4g, z4h, z4i, z4j, z4k, z4l, z4p, z4q, z4r, z4s, z4u, z4v, z4z, z53, z5f, z5l, z5x, z62, z6d, z6g, z6t, z6v, z6x, z70, z71, Nat.reduceAdd, Nat.reduceSub, ↓reduceIte, keepR, Hp.row, hasBx13, tPartx36, vo1, vo2]
  refine al_kd2 (run13 (I := IS25) rfl rfl rfl (p := (· < h.size)) (R36.mono r0 (fun _ h => h) id ((view_keeps (by repeat (first | assumption | exact Keeps.refl _ | refine Keeps.push ?_ _ | refine Keeps.set ?_ (by first | omega | (simp only [Hp.size_push, Hp.size_setB]; omega)) _)) (by simp)).fr (fun _ h => h))) (fun b hb => by rw [view_size]; simp only [Hp.size_push]; omega) (by rw [view_ro, view_size]; exact Nat.le_refl _) (by omega)) ?_ (by decide) ?_
  · rintro v k' hk' ⟨ds, rfl, hd⟩
    exact vin_agg fun c hc => vin_mono (fun b hb => .inr (by have h := hb.1; rw [view_size] at h; exact ⟨h, hb.2⟩)) (R36.rvin hd c hc)
  rintro v k1 m1 hk1 ⟨ds, rfl, hd⟩ hm1 hm2 hm3 hm4
  have hs1 := hk1.size
  rw [view_size] at hs1
  have g0 := hm3 h.size (by first | omega | (simp only [Hp.size_push, Hp.size_setB, Hp.ro_push, Hp.ro_setB]; omega))
  simp (maxDischargeDepth := 16) only [z34, z4a, z4c, ↓reduceIte] at g0 hm2 hs1
  have hf1 := R36.mono (Rp.fresh hd fun h => hm4 h _ (fun b hb => ⟨hb.2, .inr (by have h := hb.1; rw [view_size] at h; exact h)⟩)) (p' := fun b => h.size + 1 ≤ b ∧ b < k1.size) (fun b hb => ⟨by have h := hb.1; rw [view_size] at h; simpa using h, hb.2⟩) id (Fr.refl _)
  have hkm : Keeps h m1 := keeps_of (k := h.push _) (by repeat (first | assumption | exact Keeps.refl _ | refine Keeps.push ?_ _ | refine Keeps.set ?_ (by first | omega | (simp only [Hp.size_push, Hp.size_setB]; omega)) _)) (by simp only [Hp.size_push]; omega) hm3
  have p0 : h.size < h.size + 1 := by omega
  simp (maxDischargeDepth := 16) only [z0t, z0v, z0x, z0z, z1e, z1l, z1v, z2x, z3b, z3h, z3x, z3y, z3z, z41, z43, z44, z45, z46, z4a, z4e, z4f, z4g, z4h, z4i, z4j, z4k, z4l, z4p, z4q, z4r, z4s, z4u, z4v, z4z, z53, z5f, z5l, z5x, z62, z6d, z6g, z6t, z6v, z6x, z89, Nat.reduceAdd, Nat.reduceSub, ↓reduceIte, keepR, Hp.row, hasBx13, tPartx36, vo1, vo2, g0, p0]
  refine al_kd2 (run13 (I := IS25) rfl rfl rfl (p := (· < h.size)) (R36.mono r0 (fun _ h => h) id ((keeps_view hkm (fun x hx => by
      rcases keepS_mem hx with rfl | h'
      · show h.size ≤ h.size + 1; omega
      · cases h')).fr (fun _ h => h))) (fun b hb => by have := hkm.size; rw [view_size]; omega) (by rw [view_ro, view_size]; exact Nat.le_refl _) (by omega)) ?_ (by decide) ?_
  · rintro v k' hk' ⟨ds, rfl, hd⟩
    exact vin_agg fun c hc => vin_mono (fun b hb => .inr (by have h := hb.1; rw [view_size] at h; exact ⟨h, hb.2⟩)) (R36.rvin hd c hc)
  rintro v k2 m2 hk2 ⟨ds2, rfl, hd2⟩ hn1 hn2 hn3 hn4
  have hs2 := hk2.size
  rw [view_size] at hs2
  have hkm2 : Keeps h m2 := keeps_of hkm (by omega) hn3
  have hf2 := R36.mono (Rp.fresh hd2 fun h => hn4 h _ (fun b hb => ⟨hb.2, .inr (by have h := hb.1; rw [view_size] at h; exact h)⟩)) (p' := fun b => m1.size ≤ b ∧ b < k2.size) (fun b hb => ⟨by have h := hb.1; rw [view_size] at h; exact h, hb.2⟩) id (Fr.refl _)
  have hf1' := R36.mono hf1 (fun _ h => h) id (Fr.of fun b hb => hn3 b (by omega))
  obtain ⟨u1, u2, e1, -, -, -, hu1, -, -, -, -, -, -, hu2⟩ := R36_inv hf1'
  obtain ⟨w1, w2, e2, -, -, -, hw1, -, -, -, -, -, -, hw2⟩ := R36_inv hf2
  have ou1 : oneC u1 = true := R25.rone hu1 u1 (List.mem_singleton.2 rfl)
  have ou2 : oneC u2 = true := R34.rone hu2 u2 (List.mem_singleton.2 rfl)
  have ow1 : oneC w1 = true := R25.rone hw1 w1 (List.mem_singleton.2 rfl)
  have ow2 : oneC w2 = true := R34.rone hw2 w2 (List.mem_singleton.2 rfl)
  have q0 : (m2.size ≤ m2.size) = True := by simp
  have rr0 : ∀ j, (m2.ro ≤ m2.size + j) = True := fun j => by simp; omega
  have rr1 : (m2.ro ≤ m2.size) = True := by simp; omega
  rw [e1, e2]
  have z1 : k2.size ≤ m2.size := by omega
  have z2 : k1.size ≤ m2.size := by omega
  have z3 : ∀ j, k2.size ≤ m2.size + j := fun j => by omega
  have z4 : ∀ j, k1.size ≤ m2.size + j := fun j => by omega
  simp (maxDischargeDepth := 16) only [z08, z09, z0d, z0e, z0q, z0s, z0t, z0u, z0v, z0x, z0z, z1e, z1f, z1g, z1l, z1v, z1w, z1x, z2o, z2x, z2y, z2z, z33, z34, z35, z36, z37, z38, z39, z3a, z3b, z3h, z3p, z3v, z3w, z3x, z3y, z3z, z41, z43, z44, z45, z46, z48, z49, z4a, z4b, z4c, z4d, z4e, z4f, z4g, z4h, z4i, z4j, z4k, z4l, z4p, z4q, z4r, z4s, z4u, z4v, z4z, z53, z5a, z5b, z5c, z5d, z5f, z5h, z5k, z5l, z5m, z5o, z5q, z5t, z5v, z5w, z5x, z62, z66, z67, z6a, z6g, z6i, z6o, z6t, z6u, z6v, z6w, z6y, z6z, z72, z73, z74, z75, z76, z77, z78, z79, z7a, z7b, z7c, z7d, z7e, Nat.reduceEqDiff, Nat.reduceLeDiff, Nat.reduceAdd, Nat.reduceSub, ↓reduceIte, Nat.reduceDiv, Nat.reduceMod, Nat.reducePow, Nat.reduceLT, Int.reduceLT, keepR, Hp.row, Hp.wr, hasBx14, tPartx36, tSizex36, tZerox36, ou1, ou2, ow1, ow2, rr0, rr1, view_keepS2, z1, z2]
  have hy := small_view x
  generalize viewD x = y at *
  have hV := hf1'
  have hW := hf2
  rw [e1] at hV
  rw [e2] at hW
  obtain ⟨o1, z1', rfl, -⟩ := slice_form hu1
  obtain ⟨o2, z2', rfl, -⟩ := slice_form hu2
  obtain ⟨o3, z3', rfl, -⟩ := slice_form hw1
  obtain ⟨o4, z4', rfl, -⟩ := slice_form hw2
  have c14 := call_rdk (P := Try.prog) (A := A36) (I := IS25) (f := 14) (spec := fun x => .bool (f14 x.1)) rfl N (show A36.r (· < m2.size) m2 [_] (y, ()) from ⟨_, _, rfl, R36.mono hW (fun b hb => by have := hb.2; omega) (by simp) (Fr.refl _), rfl⟩) (by omega)
  have c15 := call_rdk (P := Try.prog) (A := A36) (I := IS25) (f := 15) (spec := fun x => .int .i64 (f15 x.1)) rfl N (show A36.r (· < m2.size) m2 [_] (y, ()) from ⟨_, _, rfl, R36.mono hV (fun b hb => by have := hb.2; omega) (by simp) (Fr.refl _), rfl⟩) (by omega)
  have hre := right_eq y
  have hcase : f15 y = 0 ∨ f15 y = 240 := by unfold f15; split; exact .inr rfl; split; exact .inr rfl; exact .inl rfl
  simp (maxDischargeDepth := 16) only [z08, z09, z0d, z0e, z0p, z0q, z0s, z0t, z0v, z0w, z0z, z10, z11, z1p, z1r, z3b, z46, z4e, z4f, z4g, z4h, z4i, z7b, z7v, z7w, z7x, evalC_block, tLenx70, c14]
  refine loop_rule (Al h _) (fun m x k => ∃ i : Nat, m = ns.length - i ∧ i ≤ ns.length ∧ Keeps m2 k ∧ k.get m2.size = some (.cells #[.int .u64 y.1, .int .u64 y.2.1.1.1, .int .u64 y.2.1.1.2, .slice o1 y.2.1.2.1.length z1', .int .u32 y.2.1.2.2.1.1, .int .u64 y.2.1.2.2.1.2, .int .u32 y.2.1.2.2.2.1.1, .int .u64 y.2.1.2.2.2.1.2, .int .u32 y.2.1.2.2.2.2.1, .int .u64 y.2.1.2.2.2.2.2, .slice o2 y.2.2.length z2'] true) ∧ k.get (m2.size + 1) = some (.cells #[.int .u64 y.1, .int .u64 y.2.1.1.1, .int .u64 y.2.1.1.2, .slice o3 y.2.1.2.1.length z3', .int .u32 y.2.1.2.2.1.1, .int .u64 y.2.1.2.2.1.2, .int .u32 y.2.1.2.2.2.1.1, .int .u64 y.2.1.2.2.2.1.2, .int .u32 y.2.1.2.2.2.2.1, .int .u64 y.2.1.2.2.2.2.2, .slice o4 y.2.2.length z4'] true) ∧ m2.size + 2 ≤ k.size ∧ k.ro = h.ro ∧ x.tmps.size = 128 ∧ x.defers = [] ∧ x.tmps.getD 1 undef = .slice a ns.length c ∧ x.tmps.getD 5 undef = .pointer (some ⟨m2.size, 0, none⟩) ∧ x.tmps.getD 6 undef = .pointer (some ⟨m2.size + 1, 0, none⟩) ∧ x.tmps.getD 7 undef = .bool (f14 y) ∧ x.tmps.getD 24 undef = .slice a ns.length c ∧ x.tmps.getD 25 undef = .int .i64 (ns.length : Int) ∧ x.tmps.getD 26 undef = .int .i64 (i : Int)) ?_ _ ns.length _ _ ?_ ?_
  · intro m n' x k hI' ih
    obtain ⟨i, hm, hi, hk, g5, g6, hsz, hr, hxs, hxd, l1, l5, l6, l7, l24, l25, l26⟩ := hI'
    obtain ⟨g, rfl⟩ : ∃ g : Nat → Value, x = { tmps := #[g 0, .slice a ns.length c, g 2, g 3, g 4, .pointer (some ⟨m2.size, 0, none⟩), .pointer (some ⟨m2.size + 1, 0, none⟩), .bool (f14 y), g 8, g 9, g 10, g 11, g 12, g 13, g 14, g 15, g 16, g 17, g 18, g 19, g 20, g 21, g 22, g 23, .slice a ns.length c, .int .i64 (ns.length : Int), .int .i64 (i : Int), g 27, g 28, g 29, g 30, g 31, g 32, g 33, g 34, g 35, g 36, g 37, g 38, g 39, g 40, g 41, g 42, g 43, g 44, g 45, g 46, g 47, g 48, g 49, g 50, g 51, g 52, g 53, g 54, g 55, g 56, g 57, g 58, g 59, g 60, g 61, g 62, g 63, g 64, g 65, g 66, g 67, g 68, g 69, g 70, g 71, g 72, g 73, g 74, g 75, g 76, g 77, g 78, g 79, g 80, g 81, g 82, g 83, g 84, g 85, g 86, g 87, g 88, g 89, g 90, g 91, g 92, g 93, g 94, g 95, g 96, g 97, g 98, g 99, g 100, g 101, g 102, g 103, g 104, g 105, g 106, g 107, g 108, g 109, g 110, g 111, g 112, g 113, g 114, g 115, g 116, g 117, g 118, g 119, g 120, g 121, g 122, g 123, g 124, g 125, g 126, g 127], defers := [] } := ⟨fun k => x.tmps.getD k undef, (act_eta hxs hxd).trans (by simp only [unrollL, Nat.reduceAdd, Nat.zero_add, l1, l5, l6, l7, l24, l25, l26])⟩; clear hxs hxd l1 l5 l6 l7 l24 l25 l26
    by_cases hlt : i < ns.length
    · have hlt' := lt_cast hlt
      obtain ⟨q1, q2, q3⟩ := dec_meas hlt hm
      obtain ⟨yy, hn⟩ : ∃ n, ns[i]? = some n := ⟨_, List.getElem?_eq_getElem hlt⟩
      obtain ⟨b, off, _, cells, ow, part, e, hb0, hg, -, hp', hle, hex, -⟩ := elem_at (s := 23) rn hn rfl (by decide)
      cases e
      have hp40 := hp'
      obtain ⟨u1, u2, u3, rfl, -, -, -, -, -, -, hu1', -, -, -, -, -, hu2', -, -, -, -, -, -, -, hu3', -⟩ := R47_inv hp'
      have hb : b < h.size := hb0
      have hs2' := hkm2.size
      have hb' : b < k.size := by omega
      have hg' : k.get b = some (.cells cells ow) := by rw [hk.get b (by omega), hkm2.get b hb]; exact hg
      have hnn : (0 ≤ (i : Int)) = True := by simp
      have w3 : IntKind.i64.wrap ((i : Int) + 1) = ((i + 1 : Nat) : Int) := i64_succ (by omega)
      have hkh : Keeps h k := hkm2.trans hk
      have r0 : (k.ro ≤ k.size) = True := by simp; omega
      have r1 : ∀ j, (k.ro ≤ k.size + j) = True := fun j => by simp; omega
      have ox1 : oneC u1 = true := R34.rone hu1' u1 (List.mem_singleton.2 rfl)
      have ox2 : oneC u2 = true := R25.rone hu2' u2 (List.mem_singleton.2 rfl)
      have ox3 : oneC u3 = true := R43.rone hu3' u3 (List.mem_singleton.2 rfl)
      by_cases q8 : (i : Int) = 8
      · simp (maxDischargeDepth := 16) only [z04, z05, z06, z08, z09, z0a, z0b, z0d, z0e, z0g, z0j, z0m, z0o, z0p, z0q, z0s, z0t, z0u, z0v, z0w, z0z, z10, z11, z13, z18, z1e, z1f, z1g, z1v, z1w, z1x, z1z, z2b, z2d, z2o, z2u, z2x, z2y, z2z, z34, z3a, z3b, z3c, z3f, z3p, z3q, z3v, z3w, z44, z45, z46, z49, z4c, z4e, z4f, z4g, z4h, z4i, z4p, z4q, z4r, z4z, z50, z51, z53, z5a, z5f, z72, evalC_block, Nat.reduceEqDiff, Nat.reduceAdd, ↓reduceIte, Hp.row, Hp.wr, tElemx70, tPartx47, tSizex47, tZerox47, hlt', hnn, hg', ne_f hb', ne_f0 hb', lt_t hb', lt_t0 hb', hle, hex, Int.toNat_natCast, r0, eq_true q8, ox1, ox2, ox3]
        exact Al.done (by repeat (first | assumption | exact Keeps.refl _ | refine Keeps.push ?_ _ | refine Keeps.set ?_ (by first | omega | (simp only [Hp.size_push, Hp.size_setB]; omega)) _)) hr rfl
      simp (maxDischargeDepth := 16) only [z04, z08, z09, z0a, z0b, z0c, z0d, z0e, z0p, z0q, z0s, z0t, z0u, z0v, z0w, z0z, z10, z11, z13, z18, z1e, z1f, z1g, z1v, z1w, z1x, z1z, z2b, z2d, z2o, z2u, z2x, z2y, z2z, z34, z3a, z3b, z3p, z3q, z3v, z3w, z44, z45, z46, z49, z4c, z4e, z4f, z4g, z4h, z4i, z4p, z4q, z4r, z4z, z50, z51, z53, z5a, z5b, z5f, z72, z7t, evalC_block, Nat.reduceAdd, ↓reduceIte, Hp.row, Hp.wr, tElemx70, tPartx47, tSizex47, tZerox47, hlt', hnn, hg', ne_f hb', ne_f0 hb', lt_t hb', lt_t0 hb', hle, hex, Int.toNat_natCast, r0, q8, ox1, ox2, ox3]
      rw [evalDraw_modes _ _ [(2, 0, 1), (2, 1, 3), (2, 0, 4), (2, 7, 15), (2, 0, 16), (2, 0, 32), (1, 63, 127), (1, 127, 255)] (by kernel_rfl)]
      have hyM : yy.2.2.2.2.2.1.length ≤ M := hM yy (List.mem_of_getElem? hn)
      have iu1 := vin_mono (q := (· < h.size)) (fun b hb => hb) (R34.rvin hu1' u1 (List.mem_singleton.2 rfl))
      have iu2 := vin_mono (q := (· < h.size)) (fun b hb => hb) (R25.rvin hu2' u2 (List.mem_singleton.2 rfl))
      have iu3 := vin_mono (q := (· < h.size)) (fun b hb => hb) (R43.rvin hu3' u3 (List.mem_singleton.2 rfl))
      have vx1 := fun kept bits => vb_old (s0 := k.size + 1) (kept := kept) (bits := bits) (vin_mono (fun b hb => by omega) iu1)
      have vx2 := fun kept bits => vb_old (s0 := k.size + 1) (kept := kept) (bits := bits) (vin_mono (fun b hb => by omega) iu2)
      have vx3 := fun kept bits => vb_old (s0 := k.size + 1) (kept := kept) (bits := bits) (vin_mono (fun b hb => by omega) iu3)
      simp (maxDischargeDepth := 16) only [z0t, z0v, z0x, z0z, z1e, z1l, z1v, z2x, z33, z3b, z3h, z3x, z3y, z3z, z41, z43, z44, z45, z46, z4a, z4b, z4e, z4f, z4g, z4h, z4i, z4j, z4k, z4l, z4p, z4q, z4r, z4s, z4u, z4v, z4z, z53, z5f, z5l, z5x, z62, z63, z6d, z6g, z6t, z6v, z6x, z70, z71, Nat.reduceAdd, Nat.reduceSub, ↓reduceIte, keepR, Hp.row, hasBx24, tPartx47, vx1, vx2, vx3]
      refine al_kd2 (run24 (I := IS25) rfl rfl rfl (p := (· < h.size)) (R47.mono hp40 (fun _ h => h) id ((view_keeps (by repeat (first | assumption | exact Keeps.refl _ | refine Keeps.push ?_ _ | refine Keeps.set ?_ (by first | omega | (simp only [Hp.size_push, Hp.size_setB]; omega)) _)) (by simp)).fr (fun _ h => h))) (fun b hb => by rw [view_size]; simp only [Hp.size_push, Hp.size_setB]; omega) (by rw [view_ro, view_size]; exact Nat.le_refl _) (by omega)) ?_ (by decide) ?_
      · rintro v k' hk' ⟨ds, rfl, hd⟩
        exact vin_agg fun c hc => vin_mono (fun b hb => .inr (by have h := hb.1; rw [view_size] at h; exact ⟨h, hb.2⟩)) (R47.rvin hd c hc)
      rintro v k3 m3 hk3 ⟨ds3, rfl, hd3⟩ ha1 ha2 ha3 ha4
      have hs3 := hk3.size
      rw [view_size] at hs3
      have gA := ha3 k.size (by first | omega | (simp only [Hp.size_push, Hp.size_setB, Hp.ro_push, Hp.ro_setB]; omega))
      simp (maxDischargeDepth := 16) only [z33, z4a, z4b, z4c, z4d] at gA ha2 hs3
      have hf3 := R47.mono (Rp.fresh hd3 fun h => ha4 h _ (fun b hb => ⟨hb.2, .inr (by have h := hb.1; rw [view_size] at h; exact h)⟩)) (p' := fun b => k.size + 1 ≤ b ∧ b < k3.size) (fun b hb => ⟨by have h := hb.1; rw [view_size] at h; simpa using h, hb.2⟩) id (Fr.refl _)
      have hkm3 : Keeps k m3 := keeps_of (k := (k.push _).setB k.size _) (by repeat (first | assumption | exact Keeps.refl _ | refine Keeps.push ?_ _ | refine Keeps.set ?_ (by first | omega | (simp only [Hp.size_push, Hp.size_setB]; omega)) _)) (by simp only [Hp.size_push, Hp.size_setB]; omega) ha3
      have hkh3 : Keeps h m3 := hkh.trans hkm3
      have pA : k.size < k.size + 1 := by omega
      simp (maxDischargeDepth := 16) only [z0t, z0v, z0x, z0z, z1e, z1l, z1v, z2x, z3b, z3h, z3x, z3y, z3z, z41, z43, z44, z45, z46, z4a, z4b, z4e, z4f, z4g, z4h, z4i, z4j, z4k, z4l, z4p, z4q, z4r, z4s, z4u, z4v, z4z, z53, z5f, z5l, z5x, z62, z63, z6d, z6g, z6t, z6v, z6x, z89, Nat.reduceAdd, Nat.reduceSub, ↓reduceIte, keepR, Hp.row, hasBx24, tPartx47, vx1, vx2, vx3, gA, pA]
      refine al_kd2 (run24 (I := IS25) rfl rfl rfl (p := (· < h.size)) (R47.mono hp40 (fun _ h => h) id ((keeps_view hkh3 (fun z hz => by
        rcases keepS_mem hz with rfl | h'
        · show h.size ≤ k.size + 1; omega
        · cases h')).fr (fun _ h => h))) (fun b hb => by have := hkh3.size; rw [view_size]; omega) (by rw [view_ro, view_size]; exact Nat.le_refl _) (by omega)) ?_ (by decide) ?_
      · rintro v k' hk' ⟨ds, rfl, hd⟩
        exact vin_agg fun c hc => vin_mono (fun b hb => .inr (by have h := hb.1; rw [view_size] at h; exact ⟨h, hb.2⟩)) (R47.rvin hd c hc)
      rintro v k4 m4 hk4 ⟨ds4, rfl, hd4⟩ hb1 hb2 hb3 hb4
      have hs4 := hk4.size
      rw [view_size] at hs4
      have hkm4 : Keeps k m4 := keeps_of hkm3 (by omega) hb3
      have hf4 := R47.mono (Rp.fresh hd4 fun h => hb4 h _ (fun b hb => ⟨hb.2, .inr (by have h := hb.1; rw [view_size] at h; exact h)⟩)) (p' := fun b => m3.size ≤ b ∧ b < k4.size) (fun b hb => ⟨by have h := hb.1; rw [view_size] at h; exact h, hb.2⟩) id (Fr.refl _)
      have hf3' := R47.mono hf3 (fun _ h => h) id (Fr.of fun b hb => hb3 b (by omega))
      obtain ⟨l1, l2, l3, rfl, -, -, -, -, -, -, hl1, -, -, -, -, -, hl2, -, -, -, -, -, -, -, hl3, -⟩ := R47_inv hf3'
      obtain ⟨j1, j2, j3, rfl, -, -, -, -, -, -, hj1, -, -, -, -, -, hj2, -, -, -, -, -, -, -, hj3, -⟩ := R47_inv hf4
      have ol1 : oneC l1 = true := R34.rone hl1 l1 (List.mem_singleton.2 rfl)
      have ol2 : oneC l2 = true := R25.rone hl2 l2 (List.mem_singleton.2 rfl)
      have ol3 : oneC l3 = true := R43.rone hl3 l3 (List.mem_singleton.2 rfl)
      have oj1 : oneC j1 = true := R34.rone hj1 j1 (List.mem_singleton.2 rfl)
      have oj2 : oneC j2 = true := R25.rone hj2 j2 (List.mem_singleton.2 rfl)
      have oj3 : oneC j3 = true := R43.rone hj3 j3 (List.mem_singleton.2 rfl)
      have y0 : ∀ j, (m4.ro ≤ m4.size + j) = True := fun j => by simp; omega
      have y1 : (m4.ro ≤ m4.size) = True := by simp; omega
      have y2 : k4.size ≤ m4.size := by omega
      have y3 : k3.size ≤ m4.size := by omega
      have y4 : ∀ j, k4.size ≤ m4.size + j := fun j => by omega
      have y5 : ∀ j, k3.size ≤ m4.size + j := fun j => by omega
      simp (maxDischargeDepth := 16) only [z08, z09, z0d, z0e, z0q, z0t, z0u, z0v, z1e, z1f, z1g, z1v, z1w, z1x, z2o, z2x, z2y, z2z, z34, z35, z36, z37, z38, z39, z3a, z3b, z3p, z3q, z3v, z3w, z44, z45, z46, z48, z49, z4a, z4b, z4c, z4d, z4e, z4f, z4g, z4h, z4i, z4p, z4q, z4r, z4z, z53, z5a, z5b, z5c, z5d, z5f, z5h, z5k, z5l, z5m, z5o, z5q, z5t, z5v, z5w, z5x, z62, z63, z66, z67, z6a, z6g, z6i, z6o, z6t, z6u, z6v, z6w, z6y, z6z, z72, z73, z74, z75, z76, z77, z78, z79, z7a, z7b, z7c, z7d, z7e, Nat.reduceEqDiff, Nat.reduceLeDiff, Nat.reduceAdd, ↓reduceIte, Nat.reduceDiv, Nat.reduceMod, Nat.reducePow, Nat.reduceLT, Int.reduceLT, keepR, Hp.row, Hp.wr, tPartx36, tSizex47, tZerox47, ol1, ol2, ol3, oj1, oj2, oj3, y0, y1, view_keepS2, y2, y3]
      have g5m : m4.get m2.size = _ := (hkm4.get _ (by omega)).trans g5
      have g6m : m4.get (m2.size + 1) = _ := (hkm4.get _ (by omega)).trans g6
      have hk4' := hkm4.size
      have n5 : m2.size < m4.size := by omega
      have n6 : m2.size + 1 < m4.size := by omega
      have n7 : m2.size ≤ m4.size := by omega
      have n8 : ∀ j, m2.size ≤ m4.size + j := fun j => by omega
      have hk24 : Keeps m2 m4 := hk.trans hkm4
      have hzl : (entsY (msgD yy)).length ≤ 9 := by
        rw [show entsY (msgD yy) = ((entsY yy).take 9).map cutE from rfl, List.length_map, List.length_take]; omega
      have hzu : ∀ e ∈ entsY (msgD yy), e.2.2.2.length ≤ 9 := fun e he => by
        rw [show entsY (msgD yy) = ((entsY yy).take 9).map cutE from rfl, List.mem_map] at he
        obtain ⟨e', _, rfl⟩ := he
        simp only [cutE, List.length_take]; omega
      generalize msgD yy = z at *
      simp (maxDischargeDepth := 16) only [z0q, z0s, z0t, z0v, z0x, z0z, z1e, z1l, z1v, z2x, z33, z35, z38, z39, z3b, z3h, z3x, z3y, z3z, z41, z43, z46, z4e, z4f, z4g, z4h, z4i, z4j, z4k, z4l, z4p, z4q, z4r, z4s, z4u, z4v, z4z, z53, Nat.reduceAdd, Nat.reduceSub, ↓reduceIte, Hp.row, hasBx26, tPartx47, g5m, ne_f n5, ne_f0 n5, lt_t n5, lt_t0 n5]
      refine al_kops (run26 (I := IS25) rfl rfl rfl rfl rfl rfl rfl rfl rfl rfl (p := (· < m4.size)) (R36.mono hV (fun b hb => by have := hb.2; omega) (by simp) (Keeps.fr (h := m2) (by repeat (first | assumption | exact Keeps.refl _ | refine Keeps.push ?_ _ | refine Keeps.set ?_ (by first | omega | (simp only [Hp.size_push, Hp.size_setB]; omega)) _)) (fun b hb => by have := hb.2; omega))) (R47.mono hf3' (fun b hb => by have := hb.2; omega) (by simp) (Keeps.fr (h := m4) (by repeat (first | assumption | exact Keeps.refl _ | refine Keeps.push ?_ _ | refine Keeps.set ?_ (by first | omega | (simp only [Hp.size_push, Hp.size_setB]; omega)) _)) (fun b hb => by have := hb.2; omega))) (fun b hb => by simp only [Hp.size_push, Hp.size_setB]; omega) (by simp only [Hp.size_push, Hp.size_setB, Hp.ro_push, Hp.ro_setB]; omega) hy (by omega) (fun e he => by have := hzu e he; omega) (by omega)) ?_
      rintro v k5 hk5 hr5 ⟨ds5, rfl, hd5⟩
      have hk45 : Keeps m4 k5 := Keeps.trans (by repeat (first | assumption | exact Keeps.refl _ | refine Keeps.push ?_ _ | refine Keeps.set ?_ (by first | omega | (simp only [Hp.size_push, Hp.size_setB]; omega)) _)) hk5
      obtain ⟨c1, rfl, cb1, hc1, cb2⟩ := R72_inv hd5
      have oc1 : oneC c1 = true := R34.rone hc1 _ (List.mem_singleton.2 rfl)
      have hs5 := hk45.size
      have hr5' : k5.ro = m4.ro := by rw [hr5]; simp only [Hp.ro_push, Hp.ro_setB]
      have s0 : (k5.ro ≤ k5.size) = True := by simp; omega
      have s1 : ∀ j, (k5.ro ≤ k5.size + j) = True := fun j => by simp; omega
      have g5k : k5.get m2.size = _ := (hk45.get _ (by omega)).trans g5m
      have g6k : k5.get (m2.size + 1) = _ := (hk45.get _ (by omega)).trans g6m
      have gMk : k5.get m4.size = _ := (hk5.get _ (by first | omega | (simp only [Hp.size_push, Hp.size_setB, Hp.ro_push, Hp.ro_setB]; omega))).trans (by simp (maxDischargeDepth := 16) only [z33, z35, z38, z39, ↓reduceIte]; rfl)
      have gOk : k5.get (m4.size + 1) = _ := (hk5.get _ (by first | omega | (simp only [Hp.size_push, Hp.size_setB, Hp.ro_push, Hp.ro_setB]; omega))).trans (by simp (maxDischargeDepth := 16) only [z33]; rfl)
      have hs5' := hk5.size
      simp only [Hp.size_push, Hp.size_setB] at hs5'
      have l5 : m2.size < k5.size := by omega
      have l6 : m2.size + 1 < k5.size := by omega
      have l7 : m4.size < k5.size := by omega
      have l8 : m4.size + 1 < k5.size := by omega
      have l9 : m4.size ≤ k5.size := by omega
      have c27 := call_rdk (P := Try.prog) (A := Avm) (I := IS25) (f := 27) (spec := fun x => .tuple #[.bool (f27 x.1 x.2.1).1, .int .i64 (f27 x.1 x.2.1).2]) rfl N (h := m4) (show Avm.r (· < m4.size) m4 [_, _] (y, z, ()) from ⟨_, _, rfl, R36.mono hV (fun b hb => by have := hb.2; omega) (by simp) (hk24.fr (fun b hb => by have := hb.2; omega)), _, _, rfl, R47.mono hf3' (fun b hb => by have := hb.2; omega) (by simp) (Fr.refl _), rfl⟩) (by omega)
      have l10 : ∀ j, m4.size ≤ k5.size + j := fun j => by omega
      simp (maxDischargeDepth := 16) only [z08, z09, z0a, z0d, z0e, z0p, z0q, z0s, z0t, z0u, z0v, z0x, z0z, z10, z11, z14, z1a, z1e, z1f, z1g, z1l, z1v, z1w, z1x, z2h, z2o, z2t, z2x, z2y, z2z, z34, z35, z3b, z3h, z3p, z3q, z3v, z3w, z3x, z3y, z3z, z41, z43, z44, z45, z46, z49, z4c, z4e, z4f, z4g, z4h, z4i, z4j, z4k, z4l, z4m, z4n, z4o, z4p, z4q, z4r, z4s, z4u, z4v, z4z, z53, z5f, z72, z7w, z7x, evalC_block, Nat.reduceAdd, Nat.reduceSub, ↓reduceIte, Hp.row, Hp.wr, hasBx27, tPartx36, tPartx47, tSizex72, tZerox72, oc1, s0, g5k, gMk, ne_f l5, ne_f0 l5, lt_t l5, lt_t0 l5, ne_f l7, ne_f0 l7, lt_t l7, lt_t0 l7, c27, hk45, l9]
      rcases hcase with q0 | q0
      case inr =>
        have hE : f26e y z = 240 := by unfold f26e; rw [if_neg (by omega), q0]
        have hC : f26c y z = zC := by unfold f26c; rw [if_neg (by omega)]
        have h27 : f27 y z = (false, 240) := by unfold f27; rw [if_neg (by omega), q0]
        have h14 : f14 y = false := by rw [hre, decide_eq_false (by omega)]
        rw [hC] at hd5 hc1
        have c28 := call_rdk (P := Try.prog) (A := A72) (I := IS25) (f := 28) (spec := fun x => .bool (decide (x.1 = x.2.1))) rfl N (h := k5) (show A72.r (· < k5.size) k5 [_, .agg #[.bool false, .int .u64 0, .slice none 0 0, .int .u64 0]] (zC, zC, ()) from ⟨_, _, rfl, R72.mono (R72_mk (x := zC) u0 hc1 u0) (fun b hb => hb.2) (by simp) (Fr.refl _), _, _, rfl, R72_mk (x := zC) u0 nilR u0, rfl⟩) (by omega)
        simp only [eq_self, decide_true] at c28
        have zc1 : zC.1 = false := rfl
        have zc2 : zC.2.1 = 0 := rfl
        have zc3 : zC.2.2.2 = 0 := rfl
        obtain ⟨oc, cc, rfl, -⟩ := slice_form hc1
        simp only [zc1, zc2, zc3] at c28
        simp (maxDischargeDepth := 16) only [z04, z06, z08, z09, z0a, z0b, z0c, z0d, z0e, z0g, z0j, z0k, z0p, z0q, z0r, z0s, z0t, z0v, z0w, z0x, z0z, z10, z12, z13, z14, z1b, z1e, z1l, z1v, z1y, z24, z2c, z2h, z2x, z33, z3b, z3h, z3x, z3y, z3z, z41, z43, z46, z4e, z4f, z4g, z4h, z4i, z4j, z4k, z4l, z4m, z4n, z4o, z4p, z4q, z4r, z4s, z4u, z4v, z4z, z50, z51, z52, z53, z59, z5a, z5c, z5d, z5e, z7v, z7w, z7x, z80, z81, Nat.reduceEqDiff, Nat.reduceAdd, Nat.reduceSub, ↓reduceIte, yielded, Hp.row, hasBx28, tBuildOkx72, tPartx72, tZerox72, hE, hC, h27, h14, c28, zc1, zc2, zc3, w3]
        rw [h14] at ih
        have hk25 : Keeps m2 k5 := hk24.trans hk45
        exact ih (m - 1) _ _ q1 ⟨i + 1, q2, q3, (by repeat (first | assumption | exact Keeps.refl _ | refine Keeps.push ?_ _ | refine Keeps.set ?_ (by first | omega | (simp only [Hp.size_push, Hp.size_setB]; omega)) _)), by simp (maxDischargeDepth := 16) only [z34, z35, ↓reduceIte, ne_f l5, ne_f0 l5, lt_t l5, lt_t0 l5, g5k], by simp (maxDischargeDepth := 16) only [z34, z35, ↓reduceIte, ne_f l6, ne_f0 l6, lt_t l6, lt_t0 l6, g6k], by simp only [Hp.size_push, Hp.size_setB]; omega, by simp only [Hp.ro_push, Hp.ro_setB]; omega, rfl, rfl, rfl, rfl, rfl, rfl, rfl, rfl, rfl⟩
      case inl =>
      have h14 : f14 y = true := by rw [hre, decide_eq_true q0]
      cases h29 : f29 z
      case false =>
        have hE : f26e y z = 2 := by unfold f26e; rw [if_pos q0, h29]; rfl
        have hC : f26c y z = zC := by unfold f26c; rw [if_pos q0, h29]; rfl
        rw [hC] at hd5 hc1
        have c28 := call_rdk (P := Try.prog) (A := A72) (I := IS25) (f := 28) (spec := fun x => .bool (decide (x.1 = x.2.1))) rfl N (h := k5) (show A72.r (· < k5.size) k5 [_, .agg #[.bool false, .int .u64 0, .slice none 0 0, .int .u64 0]] (zC, zC, ()) from ⟨_, _, rfl, R72.mono (R72_mk (x := zC) u0 hc1 u0) (fun b hb => hb.2) (by simp) (Fr.refl _), _, _, rfl, R72_mk (x := zC) u0 nilR u0, rfl⟩) (by omega)
        simp only [eq_self, decide_true] at c28
        have c29 := call_rdk (P := Try.prog) (A := Amsg) (I := IS25) (f := 29) (spec := fun x => .bool (f29 x.1)) rfl N (h := m4) (show Amsg.r (· < m4.size) m4 [_] (z, ()) from ⟨_, _, rfl, R47.mono hf4 (fun b hb => by have := hb.2; omega) (by simp) (Fr.refl _), rfl⟩) (by omega)
        simp only [h29] at c29
        have zc1 : zC.1 = false := rfl
        have zc2 : zC.2.1 = 0 := rfl
        have zc3 : zC.2.2.2 = 0 := rfl
        obtain ⟨oc, cc, rfl, -⟩ := slice_form hc1
        simp only [zc1, zc2, zc3] at c28
        simp (maxDischargeDepth := 16) only [z04, z08, z09, z0a, z0b, z0c, z0d, z0e, z0h, z0p, z0q, z0r, z0s, z0t, z0v, z0w, z0x, z0z, z10, z11, z12, z13, z14, z16, z1b, z1e, z1l, z1v, z1y, z2c, z2h, z2w, z2x, z33, z34, z35, z3b, z3h, z3x, z3y, z3z, z41, z43, z46, z4e, z4f, z4g, z4h, z4i, z4j, z4k, z4l, z4m, z4n, z4o, z4p, z4q, z4r, z4s, z4u, z4v, z4z, z50, z51, z52, z53, z54, z59, z5a, z5c, z5d, z5e, z7v, z7w, z7x, z80, z81, Nat.reduceAdd, Nat.reduceSub, ↓reduceIte, yielded, Hp.cell, Hp.row, hasBx28, hasBx29, tBuildOkx72, tFieldAx47x0, tFieldAx47x10, tPartx3, tPartx47, tPartx72, tZerox72, hE, hC, h14, c28, c29, zc1, zc2, zc3, gOk, ne_f l8, ne_f0 l8, lt_t l8, lt_t0 l8, hk45, l9]
        obtain ⟨m6, hm6⟩ : ∃ m6, m6 = (k5.push (some (.cells #[.bool false, .int .u64 0, .slice none 0 0, .int .u64 0] true))).setB k5.size (some (.cells #[.bool false, .int .u64 0, .slice oc zC.2.2.1.length cc, .int .u64 0] true)) := ⟨_, rfl⟩
        rw [← hm6]
        have hk56 : Keeps k5 m6 := by rw [hm6]; exact (by repeat (first | assumption | exact Keeps.refl _ | refine Keeps.push ?_ _ | refine Keeps.set ?_ (by first | omega | (simp only [Hp.size_push, Hp.size_setB]; omega)) _))
        have gC : m6.get k5.size = some (.cells #[.bool false, .int .u64 0, .slice oc zC.2.2.1.length cc, .int .u64 0] true) := by rw [hm6]; simp (maxDischargeDepth := 16) only [z33]
        have hr6 : m6.ro = k5.ro := by rw [hm6]; simp only [Hp.ro_push, Hp.ro_setB]
        have hk46 : Keeps m4 m6 := hk45.trans hk56
        have hs6' := hk56.size
        have gM6 : m6.get m4.size = _ := (hk56.get _ (by omega)).trans gMk
        have gO6 : m6.get (m4.size + 1) = _ := (hk56.get _ (by omega)).trans gOk
        have gV6 : m6.get m2.size = _ := (hk56.get _ (by omega)).trans g5k
        have gW6 : m6.get (m2.size + 1) = _ := (hk56.get _ (by omega)).trans g6k
        have c31 := call_rdk (P := Try.prog) (A := Avm) (I := IS25) (f := 31) (spec := fun x => .bool (tookF x.1 x.2.1.2.2.2.2.2.2.2.2.2.2.1.1.1 x.2.1.2.2.2.2.2.2.2.2.2.2.1.1.2)) rfl N (h := m4) (show Avm.r (· < m4.size) m4 [_, _] (y, z, ()) from ⟨_, _, rfl, R36.mono hW (fun b hb => by have := hb.2; omega) (by simp) (hk24.fr (fun b hb => by have := hb.2; omega)), _, _, rfl, R47.mono hf4 (fun b hb => by have := hb.2; omega) (by simp) (Fr.refl _), rfl⟩) (by omega)
        have hyb := u64_bounds (show IntKind.u64.min ≤ y.2.1.1.1 ∧ y.2.1.1.1 ≤ IntKind.u64.max by obtain ⟨_, _, _, _, h, _⟩ := R36_inv hV; exact h)
        have hft : ∀ i e, tookF y i e = tookB y i e := fun i e => by unfold tookF tookB; rw [f61_eq q0 hyb.1 (by have := hy.ents; omega)]
        simp only [hft] at c31
        have l5' : m2.size < m6.size := by omega
        have l6' : m2.size + 1 < m6.size := by omega
        have l7' : m4.size < m6.size := by omega
        have l8' : m4.size + 1 < m6.size := by omega
        have h27 : f27 y z = (if z.1 = 3 then (if 4611686018427387904 < z.2.2.2.2.2.2.2.2.2.2.1.1.1 then (false, 2) else (tookB y z.2.2.2.2.2.2.2.2.2.2.1.1.1 z.2.2.2.2.2.2.2.2.2.2.1.1.2, 0)) else (false, 2)) := by unfold f27; rw [if_pos q0]
        by_cases t3 : z.1 = 3
        · by_cases t4 : 4611686018427387904 < z.2.2.2.2.2.2.2.2.2.2.1.1.1
          · rw [if_pos t3, if_pos t4] at h27
            simp (maxDischargeDepth := 16) only [z04, z08, z09, z0a, z0b, z0c, z0d, z0e, z0p, z0q, z0r, z0s, z0t, z0v, z0w, z0x, z0z, z10, z12, z13, z16, z1e, z1l, z1v, z1y, z2c, z2f, z2w, z2x, z3b, z3h, z4e, z4f, z4g, z4h, z4i, z4j, z4k, z4l, z4m, z4n, z4o, z4s, z4u, z4v, z50, z51, z52, z53, z54, z59, z5a, z5c, z5e, ↓reduceIte, yielded, Hp.cell, hasBx21, tFieldAx24x0, tFieldAx33x0, tFieldAx72x2, tPartx22, tPartx34, gO6, ne_f l8', ne_f0 l8', lt_t l8', lt_t0 l8', ne_f l6', ne_f0 l6', lt_t l6', lt_t0 l6', eq_true t3, t4, h27, gC]
            refine ex_kops (run21 (I := IS25) rfl (p := fun b => m4.size + 2 ≤ b ∧ b < k5.size) (R34.mono hc1 (fun b hb => ⟨by have h := hb.1; simp only [Hp.size_push, Hp.size_setB] at h; omega, hb.2⟩) id (hk56.fr (fun b hb => hb.2))) (fun b hb => ⟨by have := hb.2; omega, by have := hb.1; omega⟩) (by simp only [zC, List.length_nil]; omega) (by simp [zC]) (fun e he => by simp [zC] at he)) ?_
            rintro _ k7 ⟨hz1, hz2, hz3, hz4⟩
            have gM7 : k7.get m4.size = _ := (hz3 _ (fun h => by have := h.1; omega)).trans gM6
            have gO7 : k7.get (m4.size + 1) = _ := (hz3 _ (fun h => by have := h.1; omega)).trans gO6
            have gV7 : k7.get m2.size = _ := (hz3 _ (fun h => by have := h.1; omega)).trans gV6
            have gW7 : k7.get (m2.size + 1) = _ := (hz3 _ (fun h => by have := h.1; omega)).trans gW6
            have hk47 : Keeps m4 k7 := ⟨by have := hk46.size; omega, fun b hb => by rw [hz3 b (fun h => by have := h.1; omega), hk46.get b hb]⟩
            have hk27 : Keeps m2 k7 := hk24.trans hk47
            have c18 := call_rdk (P := Try.prog) (A := A47) (I := IS25) (f := 18) (spec := fun x => .bool (decide (same18 x.1 x.2.1))) rfl N (h := m4) (show A47.r (· < m4.size) m4 [_, _] (z, z, ()) from ⟨_, _, rfl, R47.mono hf3' (fun b hb => by have := hb.2; omega) (by simp) (Fr.refl _), _, _, rfl, R47.mono hf4 (fun b hb => by have := hb.2; omega) (by simp) (Fr.refl _), rfl⟩) (by omega) k7 hk47
            have hsame : same18 z z := ⟨rfl, rfl, rfl, rfl, rfl, rfl, rfl, rfl, rfl, rfl, rfl, rfl, rfl, rfl⟩
            simp only [eq_true hsame] at c18
            have c22 := call_rdk (P := Try.prog) (A := A362) (I := IS25) (f := 22) (spec := fun x => .bool (decide (x.1 = x.2.1))) rfl N (h := m2) (show A362.r (· < m2.size) m2 [_, _] (y, y, ()) from ⟨_, _, rfl, R36.mono hV (fun b hb => by have := hb.2; omega) (by simp) (Fr.refl _), _, _, rfl, R36.mono hW (fun b hb => by have := hb.2; omega) (by simp) (Fr.refl _), rfl⟩) (by omega) k7 hk27
            simp (maxDischargeDepth := 16) only [z04, z08, z09, z0a, z0c, z0d, z0e, z0h, z0k, z0p, z0q, z0r, z0s, z0t, z0v, z0w, z0x, z0z, z10, z12, z13, z14, z1e, z1l, z1v, z1y, z24, z2h, z2x, z3b, z3h, z3x, z3y, z3z, z41, z43, z46, z4e, z4f, z4g, z4h, z4i, z4j, z4k, z4l, z4m, z4n, z4o, z4p, z4q, z4r, z4s, z4u, z4v, z4z, z52, z53, z59, z5a, z5c, z5e, Nat.reduceAdd, Nat.reduceSub, ↓reduceIte, yielded, Hp.row, hasBx18, hasBx22, tPartx36, tPartx47, gM7, gO7, gV7, gW7, c18, c22, w3]
            rw [h14] at ih
            exact ih (m - 1) _ _ q1 ⟨i + 1, q2, q3, hk27, gV7, gW7, by have := hk27.size; have := hk47.size; omega, by omega, rfl, rfl, rfl, rfl, rfl, rfl, rfl, rfl, rfl⟩
          · rw [if_pos t3, if_neg t4] at h27
            simp (maxDischargeDepth := 16) only [z04, z08, z09, z0a, z0c, z0d, z0e, z0p, z0q, z0r, z0s, z0t, z0v, z0w, z0x, z0z, z10, z12, z13, z16, z1e, z1l, z1v, z1y, z2c, z2f, z2w, z2x, z3b, z3h, z3x, z3y, z3z, z41, z43, z46, z4e, z4f, z4g, z4h, z4i, z4j, z4k, z4l, z4m, z4n, z4o, z4p, z4q, z4r, z4s, z4u, z4v, z4z, z50, z51, z52, z53, z54, z59, z5a, z5b, z5c, z5e, z7h, Nat.reduceAdd, Nat.reduceSub, ↓reduceIte, yielded, Hp.cell, Hp.row, hasBx21, hasBx31, tBoolx4, tFieldAx24x0, tFieldAx33x0, tFieldAx72x2, tPartx22, tPartx34, tPartx36, tPartx47, gO6, gW6, ne_f l8', ne_f0 l8', lt_t l8', lt_t0 l8', ne_f l6', ne_f0 l6', lt_t l6', lt_t0 l6', eq_true t3, t4, h27, gC, c31, hk46]
            refine ex_kops (run21 (I := IS25) rfl (p := fun b => m4.size + 2 ≤ b ∧ b < k5.size) (R34.mono hc1 (fun b hb => ⟨by have h := hb.1; simp only [Hp.size_push, Hp.size_setB] at h; omega, hb.2⟩) id (hk56.fr (fun b hb => hb.2))) (fun b hb => ⟨by have := hb.2; omega, by have := hb.1; omega⟩) (by simp only [zC, List.length_nil]; omega) (by simp [zC]) (fun e he => by simp [zC] at he)) ?_
            rintro _ k7 ⟨hz1, hz2, hz3, hz4⟩
            have gM7 : k7.get m4.size = _ := (hz3 _ (fun h => by have := h.1; omega)).trans gM6
            have gO7 : k7.get (m4.size + 1) = _ := (hz3 _ (fun h => by have := h.1; omega)).trans gO6
            have gV7 : k7.get m2.size = _ := (hz3 _ (fun h => by have := h.1; omega)).trans gV6
            have gW7 : k7.get (m2.size + 1) = _ := (hz3 _ (fun h => by have := h.1; omega)).trans gW6
            have hk47 : Keeps m4 k7 := ⟨by have := hk46.size; omega, fun b hb => by rw [hz3 b (fun h => by have := h.1; omega), hk46.get b hb]⟩
            have hk27 : Keeps m2 k7 := hk24.trans hk47
            have c18 := call_rdk (P := Try.prog) (A := A47) (I := IS25) (f := 18) (spec := fun x => .bool (decide (same18 x.1 x.2.1))) rfl N (h := m4) (show A47.r (· < m4.size) m4 [_, _] (z, z, ()) from ⟨_, _, rfl, R47.mono hf3' (fun b hb => by have := hb.2; omega) (by simp) (Fr.refl _), _, _, rfl, R47.mono hf4 (fun b hb => by have := hb.2; omega) (by simp) (Fr.refl _), rfl⟩) (by omega) k7 hk47
            have hsame : same18 z z := ⟨rfl, rfl, rfl, rfl, rfl, rfl, rfl, rfl, rfl, rfl, rfl, rfl, rfl, rfl⟩
            simp only [eq_true hsame] at c18
            have c22 := call_rdk (P := Try.prog) (A := A362) (I := IS25) (f := 22) (spec := fun x => .bool (decide (x.1 = x.2.1))) rfl N (h := m2) (show A362.r (· < m2.size) m2 [_, _] (y, y, ()) from ⟨_, _, rfl, R36.mono hV (fun b hb => by have := hb.2; omega) (by simp) (Fr.refl _), _, _, rfl, R36.mono hW (fun b hb => by have := hb.2; omega) (by simp) (Fr.refl _), rfl⟩) (by omega) k7 hk27
            simp (maxDischargeDepth := 16) only [z04, z08, z09, z0a, z0c, z0d, z0e, z0h, z0k, z0p, z0q, z0r, z0s, z0t, z0v, z0w, z0x, z0z, z10, z12, z13, z14, z1e, z1l, z1v, z1y, z24, z2h, z2x, z3b, z3h, z3x, z3y, z3z, z41, z43, z46, z4e, z4f, z4g, z4h, z4i, z4j, z4k, z4l, z4m, z4n, z4o, z4p, z4q, z4r, z4s, z4u, z4v, z4z, z52, z53, z59, z5a, z5c, z5e, Nat.reduceAdd, Nat.reduceSub, ↓reduceIte, yielded, Hp.row, hasBx18, hasBx22, tPartx36, tPartx47, gM7, gO7, gV7, gW7, c18, c22, w3]
            rw [h14] at ih
            exact ih (m - 1) _ _ q1 ⟨i + 1, q2, q3, hk27, gV7, gW7, by have := hk27.size; have := hk47.size; omega, by omega, rfl, rfl, rfl, rfl, rfl, rfl, rfl, rfl, rfl⟩
        · rw [if_neg t3] at h27
          simp (maxDischargeDepth := 16) only [z04, z08, z09, z0a, z0b, z0c, z0d, z0e, z0p, z0q, z0r, z0s, z0t, z0v, z0w, z0x, z0z, z10, z12, z13, z16, z1e, z1l, z1v, z1y, z2c, z2w, z2x, z3b, z3h, z3k, z4e, z4f, z4g, z4h, z4i, z4j, z4k, z4l, z4m, z4n, z4o, z4s, z4u, z4v, z50, z51, z52, z53, z59, z5a, z5b, z5c, z5d, z5e, ↓reduceIte, yielded, Hp.cell, hasBx21, tFieldAx72x2, tPartx34, ne_f l8', ne_f0 l8', lt_t l8', lt_t0 l8', ne_f l6', ne_f0 l6', lt_t l6', lt_t0 l6', t3, h27, gC]
          refine ex_kops (run21 (I := IS25) rfl (p := fun b => m4.size + 2 ≤ b ∧ b < k5.size) (R34.mono hc1 (fun b hb => ⟨by have h := hb.1; simp only [Hp.size_push, Hp.size_setB] at h; omega, hb.2⟩) id (hk56.fr (fun b hb => hb.2))) (fun b hb => ⟨by have := hb.2; omega, by have := hb.1; omega⟩) (by simp only [zC, List.length_nil]; omega) (by simp [zC]) (fun e he => by simp [zC] at he)) ?_
          rintro _ k7 ⟨hz1, hz2, hz3, hz4⟩
          have gM7 : k7.get m4.size = _ := (hz3 _ (fun h => by have := h.1; omega)).trans gM6
          have gO7 : k7.get (m4.size + 1) = _ := (hz3 _ (fun h => by have := h.1; omega)).trans gO6
          have gV7 : k7.get m2.size = _ := (hz3 _ (fun h => by have := h.1; omega)).trans gV6
          have gW7 : k7.get (m2.size + 1) = _ := (hz3 _ (fun h => by have := h.1; omega)).trans gW6
          have hk47 : Keeps m4 k7 := ⟨by have := hk46.size; omega, fun b hb => by rw [hz3 b (fun h => by have := h.1; omega), hk46.get b hb]⟩
          have hk27 : Keeps m2 k7 := hk24.trans hk47
          have c18 := call_rdk (P := Try.prog) (A := A47) (I := IS25) (f := 18) (spec := fun x => .bool (decide (same18 x.1 x.2.1))) rfl N (h := m4) (show A47.r (· < m4.size) m4 [_, _] (z, z, ()) from ⟨_, _, rfl, R47.mono hf3' (fun b hb => by have := hb.2; omega) (by simp) (Fr.refl _), _, _, rfl, R47.mono hf4 (fun b hb => by have := hb.2; omega) (by simp) (Fr.refl _), rfl⟩) (by omega) k7 hk47
          have hsame : same18 z z := ⟨rfl, rfl, rfl, rfl, rfl, rfl, rfl, rfl, rfl, rfl, rfl, rfl, rfl, rfl⟩
          simp only [eq_true hsame] at c18
          have c22 := call_rdk (P := Try.prog) (A := A362) (I := IS25) (f := 22) (spec := fun x => .bool (decide (x.1 = x.2.1))) rfl N (h := m2) (show A362.r (· < m2.size) m2 [_, _] (y, y, ()) from ⟨_, _, rfl, R36.mono hV (fun b hb => by have := hb.2; omega) (by simp) (Fr.refl _), _, _, rfl, R36.mono hW (fun b hb => by have := hb.2; omega) (by simp) (Fr.refl _), rfl⟩) (by omega) k7 hk27
          simp (maxDischargeDepth := 16) only [z04, z08, z09, z0a, z0c, z0d, z0e, z0h, z0k, z0p, z0q, z0r, z0s, z0t, z0v, z0w, z0x, z0z, z10, z12, z13, z14, z1e, z1l, z1v, z1y, z24, z2h, z2x, z3b, z3h, z3x, z3y, z3z, z41, z43, z46, z4e, z4f, z4g, z4h, z4i, z4j, z4k, z4l, z4m, z4n, z4o, z4p, z4q, z4r, z4s, z4u, z4v, z4z, z52, z53, z59, z5a, z5c, z5e, Nat.reduceAdd, Nat.reduceSub, ↓reduceIte, yielded, Hp.row, hasBx18, hasBx22, tPartx36, tPartx47, gM7, gO7, gV7, gW7, c18, c22, w3]
          rw [h14] at ih
          exact ih (m - 1) _ _ q1 ⟨i + 1, q2, q3, hk27, gV7, gW7, by have := hk27.size; have := hk47.size; omega, by omega, rfl, rfl, rfl, rfl, rfl, rfl, rfl, rfl, rfl⟩
      case true =>
        have hE : f26e y z = 0 := by unfold f26e; rw [if_pos q0, h29]; rfl
        have hC : f26c y z = accD y z := by unfold f26c; rw [if_pos q0, h29]; rfl
        rw [hC] at hd5 hc1 cb1 cb2
        have c29 := call_rdk (P := Try.prog) (A := Amsg) (I := IS25) (f := 29) (spec := fun x => .bool (f29 x.1)) rfl N (h := m4) (show Amsg.r (· < m4.size) m4 [_] (z, ()) from ⟨_, _, rfl, R47.mono hf4 (fun b hb => by have := hb.2; omega) (by simp) (Fr.refl _), rfl⟩) (by omega)
        simp only [h29] at c29
        obtain ⟨oc, cc, rfl, -⟩ := slice_form hc1
        simp (maxDischargeDepth := 16) only [z08, z09, z0a, z0c, z0d, z0e, z0p, z0q, z0s, z0t, z0v, z0x, z0z, z11, z14, z1e, z1l, z1v, z2h, z2x, z34, z35, z3b, z3h, z3x, z3y, z3z, z41, z43, z46, z4e, z4f, z4g, z4h, z4i, z4j, z4k, z4l, z4p, z4q, z4r, z4s, z4u, z4v, z4z, z53, z5c, z7t, z7w, z7x, Nat.reduceAdd, Nat.reduceSub, ↓reduceIte, Hp.row, hasBx29, tPartx47, hE, hC, h14, c29, gOk, ne_f l8, ne_f0 l8, lt_t l8, lt_t0 l8, hk45, l9]
        rw [evalDraw_modes _ _ [(0, 0, 1), (0, 1, 3), (0, 3, 7), (2, 7, 15), (2, 7, 23), (2, 7, 39), (2, 55, 119), (1, 127, 255), (0, 255, 511), (0, 511, 1023), (0, 1023, 2047)] (by kernel_rfl)]
        have hk25 : Keeps m2 k5 := hk24.trans hk45
        have vz : ∀ v, vin (· < k5.size) v → ∀ kept bits, vokB (allow (k5.size + 1) kept bits) v = true := fun v hv kept bits => vb_old (vin_mono (fun b hb => by omega) hv)
        have va1 := vz _ (vin_mono (fun b hb => by have := hb.2; omega) (R25.rvin hw1 _ (List.mem_singleton.2 rfl)))
        have va2 := vz _ (vin_mono (fun b hb => by have := hb.2; omega) (R34.rvin hw2 _ (List.mem_singleton.2 rfl)))
        have va3 := vz _ (vin_mono (fun b hb => by have := hb.2; omega) (R34.rvin hj1 _ (List.mem_singleton.2 rfl)))
        have va4 := vz _ (vin_mono (fun b hb => by have := hb.2; omega) (R25.rvin hj2 _ (List.mem_singleton.2 rfl)))
        have va5 := vz _ (vin_mono (fun b hb => by have := hb.2; omega) (R43.rvin hj3 _ (List.mem_singleton.2 rfl)))
        have va6 := vz _ (vin_mono (fun b hb => hb.2) (R34.rvin hc1 _ (List.mem_singleton.2 rfl)))
        simp (maxDischargeDepth := 16) only [z0t, z0v, z0w, z0x, z0z, z10, z13, z1e, z1l, z1v, z2c, z2x, z33, z34, z35, z3b, z3h, z3x, z3y, z3z, z41, z43, z44, z45, z46, z4a, z4b, z4e, z4f, z4g, z4h, z4i, z4j, z4k, z4l, z4m, z4n, z4o, z4p, z4q, z4r, z4s, z4u, z4v, z4z, z52, z53, z5a, z5c, z5e, z5f, z5j, z5l, z5u, z61, z62, z63, z6d, z6g, z6t, z6v, z6x, z70, z71, Nat.reduceAdd, Nat.reduceSub, ↓reduceIte, yielded, keepR, Hp.row, hasBx30, tPartx36, tPartx47, tPartx72, va1, va2, va3, va4, va5, va6, g6k, gOk, ne_f l6, ne_f0 l6, lt_t l6, lt_t0 l6, ne_f l8, ne_f0 l8, lt_t l8, lt_t0 l8]
        refine al_kd2 (run30 (I := IS25) rfl rfl rfl rfl rfl rfl (p := (· < m4.size)) (R36.mono hW (fun b hb => by have := hb.2; omega) (by simp) ((view_keeps (show Keeps m2 _ from (by repeat (first | assumption | exact Keeps.refl _ | refine Keeps.push ?_ _ | refine Keeps.set ?_ (by first | omega | (simp only [Hp.size_push, Hp.size_setB]; omega)) _))) (by simp)).fr (fun b hb => by have := hb.2; omega))) (R47.mono hf4 (fun b hb => by have := hb.2; omega) (by simp) ((view_keeps (show Keeps m4 _ from (by repeat (first | assumption | exact Keeps.refl _ | refine Keeps.push ?_ _ | refine Keeps.set ?_ (by first | omega | (simp only [Hp.size_push, Hp.size_setB]; omega)) _))) (by simp)).fr (fun b hb => by have := hb.2; omega))) (fun b hb => by rw [view_size]; simp only [Hp.size_push, Hp.size_setB]; omega) (by rw [view_ro, view_size]; exact Nat.le_refl _) hy (by omega) (fun e he => by have := hzu e he; omega) (by omega) q0 h29) ?_ (by decide) ?_
        · rintro v k' hk' ⟨ds, rfl, hd⟩
          exact vin_agg fun c hc => vin_mono (fun b hb => .inr (by have h := hb.1; rw [view_size] at h; exact ⟨h, hb.2⟩)) (R72.rvin hd c hc)
        rintro v k6 m6 hk6 ⟨ds6, rfl, hd6⟩ hp1 hp2 hp3 hp4
        have hs6 := hk6.size
        rw [view_size] at hs6
        simp only [Hp.size_push, Hp.size_setB] at hs6
        have gC := hp3 k5.size (by first | omega | (simp only [Hp.size_push, Hp.size_setB, Hp.ro_push, Hp.ro_setB]; omega))
        simp (maxDischargeDepth := 16) only [z33, z4c, z4d] at gC hp2
        have hk56 : Keeps k5 m6 := keeps_of (k := (k5.push _).setB k5.size _) (by repeat (first | assumption | exact Keeps.refl _ | refine Keeps.push ?_ _ | refine Keeps.set ?_ (by first | omega | (simp only [Hp.size_push, Hp.size_setB]; omega)) _)) (by simp only [Hp.size_push, Hp.size_setB]; omega) hp3
        have hf6 := R72.mono (Rp.fresh hd6 fun h => hp4 h _ (fun b hb => ⟨hb.2, .inr (by have h := hb.1; rw [view_size] at h; exact h)⟩)) (p' := fun b => k5.size + 1 ≤ b ∧ b < k6.size) (fun b hb => ⟨by have h := hb.1; rw [view_size] at h; simpa using h, hb.2⟩) id (Fr.refl _)
        have c28 := fun (bits : Nat) (hb : decide (bits / 2 ^ 6 % 2 = 1) = true) => call_rdk (P := Try.prog) (A := A72) (I := IS25) (f := 28) (spec := fun x => .bool (decide (x.1 = x.2.1))) rfl N (h := m6.view bits (keepS 6 (k5.size + 1) k6.size [])) (show A72.r (· < (m6.view bits (keepS 6 (k5.size + 1) k6.size [])).size) _ [_, _] (accD y z, accD y z, ()) from
          ⟨_, _, rfl, R72.mono (R72_mk (x := accD y z) cb1 hc1 cb2) (fun b hb => by rw [view_size]; have := hb.2; omega) (by simp) (Fr.of fun b hb => by have := hb.2; rw [view_keepS (by omega), view_nil, hk56.get b (by omega)]),
            _, _, rfl, R72.mono hf6 (fun b hb => by rw [view_size]; have := hb.2; omega) (by simp) (Fr.of fun b hb' => by rw [view_keepS' (by rw [tb]; exact hb), view_nil]), rfl⟩) (by omega) _ (Keeps.refl _)
        simp only [eq_self, decide_true] at c28
        have z1 : k5.size < k5.size + 1 := by omega
        simp (maxDischargeDepth := 16) only [z04, z08, z09, z0a, z0c, z0d, z0e, z0h, z0q, z0s, z0t, z0v, z0w, z0x, z0z, z11, z12, z14, z16, z1e, z1l, z1v, z1y, z2h, z2w, z2x, z3b, z3h, z46, z4a, z4b, z4e, z4f, z4g, z4h, z4i, z4j, z4k, z4l, z4m, z4n, z4o, z4s, z4u, z4v, z50, z51, z52, z54, z59, z5a, z5c, z5e, z5j, z5n, z5t, z5u, z5y, z60, z63, z6k, z6t, z6x, Nat.reduceAdd, ↓reduceIte, Nat.reduceDiv, Nat.reduceMod, Nat.reducePow, yielded, keepR, Hp.cell, hasBx28, tFieldAx47x0, tPartx3, c28]
        have hk46 : Keeps m4 m6 := hk45.trans hk56
        have hs6' := hk56.size
        have gM6 : m6.get m4.size = _ := (hk56.get _ (by omega)).trans gMk
        have gO6 : m6.get (m4.size + 1) = _ := (hk56.get _ (by omega)).trans gOk
        have gV6 : m6.get m2.size = _ := (hk56.get _ (by omega)).trans g5k
        have gW6 : m6.get (m2.size + 1) = _ := (hk56.get _ (by omega)).trans g6k
        have c31 := call_rdk (P := Try.prog) (A := Avm) (I := IS25) (f := 31) (spec := fun x => .bool (tookF x.1 x.2.1.2.2.2.2.2.2.2.2.2.2.1.1.1 x.2.1.2.2.2.2.2.2.2.2.2.2.1.1.2)) rfl N (h := m4) (show Avm.r (· < m4.size) m4 [_, _] (y, z, ()) from ⟨_, _, rfl, R36.mono hW (fun b hb => by have := hb.2; omega) (by simp) (hk24.fr (fun b hb => by have := hb.2; omega)), _, _, rfl, R47.mono hf4 (fun b hb => by have := hb.2; omega) (by simp) (Fr.refl _), rfl⟩) (by omega)
        have hyb := u64_bounds (show IntKind.u64.min ≤ y.2.1.1.1 ∧ y.2.1.1.1 ≤ IntKind.u64.max by obtain ⟨_, _, _, _, h, _⟩ := R36_inv hV; exact h)
        have hft : ∀ i e, tookF y i e = tookB y i e := fun i e => by unfold tookF tookB; rw [f61_eq q0 hyb.1 (by have := hy.ents; omega)]
        simp only [hft] at c31
        have h1 : z.1 = 1 := by unfold f29 at h29; simp only [Bool.and_eq_true, decide_eq_true_eq] at h29; exact h29.1.1
        have h13 : ¬ z.1 = 3 := by omega
        have h27 : f27 y z = (false, 2) := by unfold f27; rw [if_pos q0, if_neg h13]
        have l5' : m2.size < m6.size := by omega
        have l6' : m2.size + 1 < m6.size := by omega
        have l7' : m4.size < m6.size := by omega
        have l8' : m4.size + 1 < m6.size := by omega
        simp (maxDischargeDepth := 16) only [z04, z08, z09, z0a, z0b, z0c, z0d, z0e, z0p, z0q, z0r, z0s, z0t, z0v, z0w, z0x, z0z, z10, z12, z13, z16, z1e, z1l, z1v, z1y, z2c, z2w, z2x, z3b, z3h, z3k, z4e, z4f, z4g, z4h, z4i, z4j, z4k, z4l, z4m, z4n, z4o, z4s, z4u, z4v, z50, z51, z52, z53, z59, z5a, z5b, z5c, z5d, z5e, ↓reduceIte, yielded, Hp.cell, hasBx21, tFieldAx72x2, tPartx34, gO6, ne_f l8', ne_f0 l8', lt_t l8', lt_t0 l8', h13, h27, gC]
        have hac : (accD y z).2.2.1.length ≤ 1000 ∧ ∀ e ∈ (accD y z).2.2.1, e.2.2.2.length ≤ 50 := by
          unfold accD
          split
          · exact ⟨by simp, fun e he => by simp at he⟩
          split
          · exact ⟨by simp, fun e he => by simp at he⟩
          cases (List.range (entsY z).length).find? (isNew y z) with
          | none => exact ⟨by simp [foundD], fun e he => by simp [foundD] at he⟩
          | some i => exact ⟨by simp only [foundD, List.length_drop]; omega, fun e he => by have := hzu e (List.mem_of_mem_drop he); omega⟩
        refine ex_kops (run21 (I := IS25) rfl (p := fun b => m4.size + 2 ≤ b ∧ b < k5.size) (R34.mono hc1 (fun b hb => ⟨by have h := hb.1; simp only [Hp.size_push, Hp.size_setB] at h; omega, hb.2⟩) id (hk56.fr (fun b hb => hb.2))) (fun b hb => ⟨by have := hb.2; omega, by have := hb.1; omega⟩) (by omega) hac.1 hac.2) ?_
        rintro _ k7 ⟨hz1, hz2, hz3, hz4⟩
        have gM7 : k7.get m4.size = _ := (hz3 _ (fun h => by have := h.1; omega)).trans gM6
        have gO7 : k7.get (m4.size + 1) = _ := (hz3 _ (fun h => by have := h.1; omega)).trans gO6
        have gV7 : k7.get m2.size = _ := (hz3 _ (fun h => by have := h.1; omega)).trans gV6
        have gW7 : k7.get (m2.size + 1) = _ := (hz3 _ (fun h => by have := h.1; omega)).trans gW6
        have hk47 : Keeps m4 k7 := ⟨by have := hk46.size; omega, fun b hb => by rw [hz3 b (fun h => by have := h.1; omega), hk46.get b hb]⟩
        have hk27 : Keeps m2 k7 := hk24.trans hk47
        have c18 := call_rdk (P := Try.prog) (A := A47) (I := IS25) (f := 18) (spec := fun x => .bool (decide (same18 x.1 x.2.1))) rfl N (h := m4) (show A47.r (· < m4.size) m4 [_, _] (z, z, ()) from ⟨_, _, rfl, R47.mono hf3' (fun b hb => by have := hb.2; omega) (by simp) (Fr.refl _), _, _, rfl, R47.mono hf4 (fun b hb => by have := hb.2; omega) (by simp) (Fr.refl _), rfl⟩) (by omega) k7 hk47
        have hsame : same18 z z := ⟨rfl, rfl, rfl, rfl, rfl, rfl, rfl, rfl, rfl, rfl, rfl, rfl, rfl, rfl⟩
        simp only [eq_true hsame] at c18
        have c22 := call_rdk (P := Try.prog) (A := A362) (I := IS25) (f := 22) (spec := fun x => .bool (decide (x.1 = x.2.1))) rfl N (h := m2) (show A362.r (· < m2.size) m2 [_, _] (y, y, ()) from ⟨_, _, rfl, R36.mono hV (fun b hb => by have := hb.2; omega) (by simp) (Fr.refl _), _, _, rfl, R36.mono hW (fun b hb => by have := hb.2; omega) (by simp) (Fr.refl _), rfl⟩) (by omega) k7 hk27
        simp (maxDischargeDepth := 16) only [z04, z08, z09, z0a, z0c, z0d, z0e, z0h, z0k, z0p, z0q, z0r, z0s, z0t, z0v, z0w, z0x, z0z, z10, z12, z13, z14, z1e, z1l, z1v, z1y, z24, z2h, z2x, z3b, z3h, z3x, z3y, z3z, z41, z43, z46, z4e, z4f, z4g, z4h, z4i, z4j, z4k, z4l, z4m, z4n, z4o, z4p, z4q, z4r, z4s, z4u, z4v, z4z, z52, z53, z59, z5a, z5c, z5e, Nat.reduceAdd, Nat.reduceSub, ↓reduceIte, yielded, Hp.row, hasBx18, hasBx22, tPartx36, tPartx47, gM7, gO7, gV7, gW7, c18, c22, w3]
        rw [h14] at ih
        exact ih (m - 1) _ _ q1 ⟨i + 1, q2, q3, hk27, gV7, gW7, by have := hk27.size; have := hk47.size; omega, by omega, rfl, rfl, rfl, rfl, rfl, rfl, rfl, rfl, rfl⟩
    · have hlt' := nlt_cast hlt
      simp (maxDischargeDepth := 16) only [z05, z06, z08, z09, z0a, z0c, z0d, z0e, z0g, z0j, z0m, z0o, z0p, z0q, z0s, z0t, z0v, z0w, z0z, z11, z13, z2d, z3b, z3c, z3f, z4e, z4f, z4g, z4h, z4i, z4z, z5b, ↓reduceIte, hlt']
      exact Al.done (hkm2.trans hk) hr rfl
  · omega
  · exact ⟨0, by omega, by omega, (by repeat (first | assumption | exact Keeps.refl _ | refine Keeps.push ?_ _ | refine Keeps.set ?_ (by first | omega | (simp only [Hp.size_push, Hp.size_setB]; omega)) _)), by simp (maxDischargeDepth := 16) only [z33, z35, z38, z39, ↓reduceIte], by simp (maxDischargeDepth := 16) only [z33], by simp only [Hp.size_push, Hp.size_setB]; omega, by simp only [Hp.ro_push, Hp.ro_setB]; omega, rfl, rfl, rfl, rfl, rfl, rfl, rfl, rfl, rfl⟩
end Go.Abs.B1
