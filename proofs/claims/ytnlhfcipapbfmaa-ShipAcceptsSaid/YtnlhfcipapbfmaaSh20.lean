/- ShipOffers, run. -/
import Derived.Test.YtnlhfcipapbfmaaSh19
namespace Go.Abs.B1
open Go.Proofs
set_option maxRecDepth 10000
set_option maxHeartbeats 4000000
set_option linter.all false
noncomputable def TS20 : TB := [(12, g12), (14, g14), (15, g15), (55, g55), (57, g57), (17, g17), (18, g18), (19, g19), (63, g63), (22, g22)]
noncomputable abbrev IS20 : Intr := fun f => TS20.lookup f
theorem okS20 : IntrOk Try.prog (CKb Try.prog) IS20 := Con.table fun x hx => by
  simp only [TS20, List.mem_cons, List.not_mem_nil, or_false] at hx
  rcases hx with rfl | rfl | rfl | rfl | rfl | rfl | rfl | rfl | rfl | rfl
  · exact con12
  · exact con14
  · exact con15
  · exact con55
  · exact con57
  · exact con17
  · exact con18
  · exact con19
  · exact con63
  · exact con22
theorem ne24 (x y : T24) : aBin Try.prog .neq 24 (.agg #[.int .u64 x.1, .int .u64 x.2]) (.agg #[.int .u64 y.1, .int .u64 y.2]) = some (.bool (!decide (x = y))) := by
  obtain ⟨a, b⟩ := x
  obtain ⟨c, d⟩ := y
  have := (bin_eql_agg (P := Try.prog) (t := 24) (k := [.int .u64, .int .u64]) (xs := #[.int .u64 a, .int .u64 b]) (ys := #[.int .u64 c, .int .u64 d]) (b := decide (a = c) && decide (b = d)) (by kernel_rfl) (by kernel_rfl) (by kernel_rfl) (by simp [cellsEq, scEq, andO])).2
  rw [this]
  congr 2
  simp [Prod.ext_iff]
theorem small_view (x : T36) : Small (viewD x) := ⟨by simp only [viewD, baseD, List.length_take]; omega, by simp only [viewD, List.length_map, List.length_take]; omega, fun e he => by
  simp only [viewD, List.mem_map] at he
  obtain ⟨e', _, rfl⟩ := he
  simp only [cutE, List.length_take]; omega⟩
theorem run3 (h : Hp) (cs : List Value) (v : Value) (x : T36) (ns : T37) (r : R36.r false (· < h.size) h cs x) (rn : R37.r false (· < h.size) h [v] ns) (hro : h.ro ≤ h.size) : ∃ N, Al h (fun _ w => w = .bool true) (evalV Try.prog IS20 N (.fn 3) #[.agg cs.toArray, v] h) := by
  obtain ⟨a, c, rfl, -, hl⟩ := slice_form rn
  unfold capOpen at hl
  obtain ⟨N, hN⟩ : ∃ N, N = ns.length + x.2.2.length + 2000 := ⟨_, rfl⟩
  refine ⟨N + 1, ?_⟩
  have r0 := r
  obtain ⟨v1, v2, rfl, b1, b2, b3, hv1, b4, b5, b6, b7, b8, b9, hv2⟩ := R36_inv r
  have vo1 := fun kept bits => vb_old (s0 := h.size + 1) (kept := kept) (bits := bits) (vin_mono (fun b hb => by omega) (R25.rvin hv1 v1 (List.mem_singleton.2 rfl)))
  have vo2 := fun kept bits => vb_old (s0 := h.size + 1) (kept := kept) (bits := bits) (vin_mono (fun b hb => by omega) (R34.rvin hv2 v2 (List.mem_singleton.2 rfl)))
  rw [evalV_call (P := Try.prog) (intr := IS20) (f := 3) (m := 129) (rs := #[.tmp 4]) rfl Try.func3 rfl rfl rfl]
  have c12 : ∀ n k, evalV Try.prog IS20 (n + 1) (.fn 12) #[] k = some (.bool true, k) := fun n k => (evalV_intr (g := g12) rfl).trans rfl
  have c12' : ∀ k, evalV Try.prog IS20 N (.fn 12) #[] k = some (.bool true, k) := fun k => by obtain ⟨n, rfl⟩ : ∃ n, N = n + 1 := ⟨N - 1, by omega⟩; exact c12 _ k
  simp (maxDischargeDepth := 16) only [z04, z08, z09, z0a, z0c, z0d, z0e, z0p, z0q, z0s, z0t, z0v, z0w, z0x, z0z, z11, z14, z1h, z1l, z2h, z2o, z3b, z3h, z4e, z4f, z4g, z4h, z4i, z4j, z4l, z4p, z4q, z4r, z4s, z4t, z4u, z4v, z4w, z4x, z4y, z53, z5c, z7t, Nat.reduceAdd, Nat.reduceSub, ↓reduceIte, hasBx12, c12']
  rw [evalDraw_modes _ _ [(2, 0, 1), (2, 1, 3), (2, 0, 4), (2, 7, 15), (2, 0, 16), (2, 0, 32), (1, 63, 127), (1, 127, 255)] (by kernel_rfl)]
  simp (maxDischargeDepth := 16) only [z0t, z0v, z0x, z0z, z1e, z1l, z1v, z2x, z34, z3b, z3h, z3x, z3y, z3z, z41, z43, z44, z45, z46, z4a, z4e, z4f, z4g, z4h, z4i, z4j, z4k, z4l, z4p, z4q, z4r, z4s, z4u, z4v, z4z, z53, z5f, z5l, z5x, z62, z6d, z6g, z6t, z6v, z6x, z70, z71, Nat.reduceAdd, Nat.reduceSub, ↓reduceIte, keepR, Hp.row, hasBx13, tPartx36, vo1, vo2]
  refine al_kd2 (run13 (I := IS20) rfl rfl rfl (p := (· < h.size)) (R36.mono r0 (fun _ h => h) id ((view_keeps (by repeat (first | assumption | exact Keeps.refl _ | refine Keeps.push ?_ _ | refine Keeps.set ?_ (by first | omega | (simp only [Hp.size_push, Hp.size_setB]; omega)) _)) (by simp)).fr (fun _ h => h))) (fun b hb => by rw [view_size]; simp only [Hp.size_push]; omega) (by rw [view_ro, view_size]; exact Nat.le_refl _) (by omega)) ?_ (by decide) ?_
  · rintro v k' hk' ⟨ds, rfl, hd⟩
    exact vin_agg fun c hc => vin_mono (fun b hb => .inr (by have h := hb.1; rw [view_size] at h; exact ⟨h, hb.2⟩)) (R36.rvin hd c hc)
  rintro v k1 m1 hk1 ⟨ds, rfl, hd⟩ hm1 hm2 hm3 hm4
  have hs1 := hk1.size
  rw [view_size] at hs1
  have g0 := hm3 h.size (by first | omega | (simp only [Hp.size_push, Hp.size_setB, Hp.ro_push, Hp.ro_setB]; omega))
  simp (maxDischargeDepth := 16) only [z34, z4a, z4c, ↓reduceIte] at g0 hm2 hs1
  have hf1 := R36.mono (Rp.fresh hd fun h => hm4 h _ (fun b hb => ⟨hb.2, .inr (by have h := hb.1; rw [view_size] at h; exact h)⟩)) (p' := fun b => h.size + 1 ≤ b ∧ b < k1.size) (fun b hb => ⟨by have h := hb.1; rw [view_size] at h; simpa using h, hb.2⟩) id (Fr.refl _)
  have hkm : Keeps h m1 := keeps_of (k := h.push _) (by repeat (first | assumption | exact Keeps.refl _ | refine Keeps.push ?_ _ | refine Keeps.set ?_ (by first | omega | (simp only [Hp.size_push, Hp.size_setB]; omega)) _)) (by simp only [Hp.size_push]; omega) hm3
  have p0 : h.size < h.size + 1 := by omega
  simp (maxDischargeDepth := 16) only [z0t, z0v, z0x, z0z, z1e, z1l, z1v, z2x, z3b, z3h, z3x, z3y, z3z, z41, z43, z44, z45, z46, z4a, z4e, z4f, z4g, z4h, z4i, z4j, z4k, z4l, z4p, z4q, z4r, z4s, z4u, z4v, z4z, z53, z5f, z5l, z5x, z62, z6d, z6g, z6t, z6v, z6x, z89, Nat.reduceAdd, Nat.reduceSub, ↓reduceIte, keepR, Hp.row, hasBx13, tPartx36, vo1, vo2, g0, p0]
  refine al_kd2 (run13 (I := IS20) rfl rfl rfl (p := (· < h.size)) (R36.mono r0 (fun _ h => h) id ((keeps_view hkm (fun x hx => by
      rcases keepS_mem hx with rfl | h'
      · show h.size ≤ h.size + 1; omega
      · cases h')).fr (fun _ h => h))) (fun b hb => by have := hkm.size; rw [view_size]; omega) (by rw [view_ro, view_size]; exact Nat.le_refl _) (by omega)) ?_ (by decide) ?_
  · rintro v k' hk' ⟨ds, rfl, hd⟩
    exact vin_agg fun c hc => vin_mono (fun b hb => .inr (by have h := hb.1; rw [view_size] at h; exact ⟨h, hb.2⟩)) (R36.rvin hd c hc)
  rintro v k2 m2 hk2 ⟨ds2, rfl, hd2⟩ hn1 hn2 hn3 hn4
  have hs2 := hk2.size
  rw [view_size] at hs2
  have hkm2 : Keeps h m2 := keeps_of hkm (by omega) hn3
  have hf2 := R36.mono (Rp.fresh hd2 fun h => hn4 h _ (fun b hb => ⟨hb.2, .inr (by have h := hb.1; rw [view_size] at h; exact h)⟩)) (p' := fun b => m1.size ≤ b ∧ b < k2.size) (fun b hb => ⟨by have h := hb.1; rw [view_size] at h; exact h, hb.2⟩) id (Fr.refl _)
  have hf1' := R36.mono hf1 (fun _ h => h) id (Fr.of fun b hb => hn3 b (by omega))
  obtain ⟨u1, u2, e1, -, -, -, hu1, -, -, -, -, -, -, hu2⟩ := R36_inv hf1'
  obtain ⟨w1, w2, e2, -, -, -, hw1, -, -, -, -, -, -, hw2⟩ := R36_inv hf2
  have ou1 : oneC u1 = true := R25.rone hu1 u1 (List.mem_singleton.2 rfl)
  have ou2 : oneC u2 = true := R34.rone hu2 u2 (List.mem_singleton.2 rfl)
  have ow1 : oneC w1 = true := R25.rone hw1 w1 (List.mem_singleton.2 rfl)
  have ow2 : oneC w2 = true := R34.rone hw2 w2 (List.mem_singleton.2 rfl)
  have q0 : (m2.size ≤ m2.size) = True := by simp
  have rr0 : ∀ j, (m2.ro ≤ m2.size + j) = True := fun j => by simp; omega
  have rr1 : (m2.ro ≤ m2.size) = True := by simp; omega
  rw [e1, e2]
  have z1 : k2.size ≤ m2.size := by omega
  have z2 : k1.size ≤ m2.size := by omega
  have z3 : ∀ j, k2.size ≤ m2.size + j := fun j => by omega
  have z4 : ∀ j, k1.size ≤ m2.size + j := fun j => by omega
  simp (maxDischargeDepth := 16) only [z08, z09, z0d, z0e, z0q, z0s, z0t, z0u, z0v, z0x, z0z, z1e, z1f, z1g, z1l, z1v, z1w, z1x, z2o, z2x, z2y, z2z, z33, z34, z35, z36, z37, z38, z39, z3a, z3b, z3h, z3p, z3v, z3w, z3x, z3y, z3z, z41, z43, z44, z45, z46, z48, z49, z4a, z4b, z4c, z4d, z4e, z4f, z4g, z4h, z4i, z4j, z4k, z4l, z4p, z4q, z4r, z4s, z4u, z4v, z4z, z53, z5a, z5b, z5c, z5d, z5f, z5h, z5k, z5l, z5m, z5o, z5q, z5t, z5v, z5w, z5x, z62, z66, z67, z6a, z6g, z6i, z6o, z6t, z6u, z6v, z6w, z6y, z6z, z72, z73, z74, z75, z76, z77, z78, z79, z7a, z7b, z7c, z7d, z7e, Nat.reduceEqDiff, Nat.reduceLeDiff, Nat.reduceAdd, Nat.reduceSub, ↓reduceIte, Nat.reduceDiv, Nat.reduceMod, Nat.reducePow, Nat.reduceLT, Int.reduceLT, keepR, Hp.row, Hp.wr, hasBx14, tPartx36, tSizex36, tZerox36, ou1, ou2, ow1, ow2, rr0, rr1, view_keepS2, z1, z2]
  have hy := small_view x
  generalize viewD x = y at *
  have hV := hf1'
  have hW := hf2
  rw [e1] at hV
  rw [e2] at hW
  obtain ⟨o1, z1', rfl, -⟩ := slice_form hu1
  obtain ⟨o2, z2', rfl, -⟩ := slice_form hu2
  obtain ⟨o3, z3', rfl, -⟩ := slice_form hw1
  obtain ⟨o4, z4', rfl, -⟩ := slice_form hw2
  have c14 := call_rdk (P := Try.prog) (A := A36) (I := IS20) (f := 14) (spec := fun x => .bool (f14 x.1)) rfl N (show A36.r (· < m2.size) m2 [_] (y, ()) from ⟨_, _, rfl, R36.mono hW (fun b hb => by have := hb.2; omega) (by simp) (Fr.refl _), rfl⟩) (by omega)
  have c15 := call_rdk (P := Try.prog) (A := A36) (I := IS20) (f := 15) (spec := fun x => .int .i64 (f15 x.1)) rfl N (show A36.r (· < m2.size) m2 [_] (y, ()) from ⟨_, _, rfl, R36.mono hV (fun b hb => by have := hb.2; omega) (by simp) (Fr.refl _), rfl⟩) (by omega)
  have hre := right_eq y
  have hcase : f15 y = 0 ∨ f15 y = 240 := by unfold f15; split; exact .inr rfl; split; exact .inr rfl; exact .inl rfl
  rcases hcase with q0 | q0
  · rw [q0] at hre c15
    rw [show f14 y = true from by rw [hre]; rfl] at c14
    simp (maxDischargeDepth := 16) only [z04, z08, z09, z0a, z0c, z0d, z0e, z0p, z0q, z0r, z0s, z0t, z0v, z0w, z0x, z0z, z10, z11, z12, z13, z14, z1e, z1l, z1p, z1r, z1v, z1y, z2b, z2h, z2x, z33, z35, z38, z39, z3b, z3h, z3l, z3x, z3y, z3z, z41, z43, z46, z4e, z4f, z4g, z4h, z4i, z4j, z4k, z4l, z4m, z4n, z4o, z4p, z4q, z4r, z4s, z4u, z4v, z4z, z52, z53, z59, z5a, z5c, z5e, z7b, z7h, z7v, z7w, z7x, evalC_block, Nat.reduceAdd, Nat.reduceSub, ↓reduceIte, yielded, Hp.row, hasBx15, tBoolx4, tLenx37, tPartx36, c14, c15]
    refine loop_rule (Al h _) (fun m x k => ∃ i : Nat, m = ns.length - i ∧ i ≤ ns.length ∧ Keeps m2 k ∧ k.get m2.size = some (.cells #[.int .u64 y.1, .int .u64 y.2.1.1.1, .int .u64 y.2.1.1.2, .slice o1 y.2.1.2.1.length z1', .int .u32 y.2.1.2.2.1.1, .int .u64 y.2.1.2.2.1.2, .int .u32 y.2.1.2.2.2.1.1, .int .u64 y.2.1.2.2.2.1.2, .int .u32 y.2.1.2.2.2.2.1, .int .u64 y.2.1.2.2.2.2.2, .slice o2 y.2.2.length z2'] true) ∧ k.get (m2.size + 1) = some (.cells #[.int .u64 y.1, .int .u64 y.2.1.1.1, .int .u64 y.2.1.1.2, .slice o3 y.2.1.2.1.length z3', .int .u32 y.2.1.2.2.1.1, .int .u64 y.2.1.2.2.1.2, .int .u32 y.2.1.2.2.2.1.1, .int .u64 y.2.1.2.2.2.1.2, .int .u32 y.2.1.2.2.2.2.1, .int .u64 y.2.1.2.2.2.2.2, .slice o4 y.2.2.length z4'] true) ∧ m2.size + 2 ≤ k.size ∧ k.ro = h.ro ∧ x.tmps.size = 129 ∧ x.defers = [] ∧ x.tmps.getD 1 undef = .slice a ns.length c ∧ x.tmps.getD 5 undef = .pointer (some ⟨m2.size, 0, none⟩) ∧ x.tmps.getD 6 undef = .pointer (some ⟨m2.size + 1, 0, none⟩) ∧ x.tmps.getD 7 undef = .bool true ∧ x.tmps.getD 8 undef = .int .i64 0 ∧ x.tmps.getD 40 undef = .slice a ns.length c ∧ x.tmps.getD 41 undef = .int .i64 (ns.length : Int) ∧ x.tmps.getD 42 undef = .int .i64 (i : Int)) ?_ _ ns.length _ _ ?_ ?_
    · intro m n' x k hI' ih
      obtain ⟨i, hm, hi, hk, g5, g6, hsz, hr, hxs, hxd, l1, l5, l6, l7, l8, l40, l41, l42⟩ := hI'
      obtain ⟨g, rfl⟩ : ∃ g : Nat → Value, x = { tmps := #[g 0, .slice a ns.length c, g 2, g 3, g 4, .pointer (some ⟨m2.size, 0, none⟩), .pointer (some ⟨m2.size + 1, 0, none⟩), .bool true, .int .i64 0, g 9, g 10, g 11, g 12, g 13, g 14, g 15, g 16, g 17, g 18, g 19, g 20, g 21, g 22, g 23, g 24, g 25, g 26, g 27, g 28, g 29, g 30, g 31, g 32, g 33, g 34, g 35, g 36, g 37, g 38, g 39, .slice a ns.length c, .int .i64 (ns.length : Int), .int .i64 (i : Int), g 43, g 44, g 45, g 46, g 47, g 48, g 49, g 50, g 51, g 52, g 53, g 54, g 55, g 56, g 57, g 58, g 59, g 60, g 61, g 62, g 63, g 64, g 65, g 66, g 67, g 68, g 69, g 70, g 71, g 72, g 73, g 74, g 75, g 76, g 77, g 78, g 79, g 80, g 81, g 82, g 83, g 84, g 85, g 86, g 87, g 88, g 89, g 90, g 91, g 92, g 93, g 94, g 95, g 96, g 97, g 98, g 99, g 100, g 101, g 102, g 103, g 104, g 105, g 106, g 107, g 108, g 109, g 110, g 111, g 112, g 113, g 114, g 115, g 116, g 117, g 118, g 119, g 120, g 121, g 122, g 123, g 124, g 125, g 126, g 127, g 128], defers := [] } := ⟨fun k => x.tmps.getD k undef, (act_eta hxs hxd).trans (by simp only [unrollL, Nat.reduceAdd, Nat.zero_add, l1, l5, l6, l7, l8, l40, l41, l42])⟩; clear hxs hxd l1 l5 l6 l7 l8 l40 l41 l42
      by_cases hlt : i < ns.length
      · have hlt' := lt_cast hlt
        obtain ⟨q1, q2, q3⟩ := dec_meas hlt hm
        obtain ⟨n, hn⟩ : ∃ n, ns[i]? = some n := ⟨_, List.getElem?_eq_getElem hlt⟩
        obtain ⟨b, off, _, cells, ow, part, e, hb0, hg, -, hp', hle, -, he⟩ := elem_at (s := 1) rn hn rfl (by decide)
        cases e
        obtain ⟨rfl, hnb⟩ := Rp.int_inv hp'
        have e0 : cells[off + i]? = some (.int .u64 n) := by have := he 0 (by decide); simpa using this
        have hb : b < h.size := hb0
        have hs2' := hkm2.size
        have hb' : b < k.size := by omega
        have hg' : k.get b = some (.cells cells ow) := by rw [hk.get b (by omega), hkm2.get b hb]; exact hg
        have hnn : (0 ≤ (i : Int)) = True := by simp
        have w3 : IntKind.i64.wrap ((i : Int) + 1) = ((i + 1 : Nat) : Int) := i64_succ (by omega)
        have hkh : Keeps h k := hkm2.trans hk
        by_cases q10 : (i : Int) = 10
        · simp (maxDischargeDepth := 16) only [z04, z05, z06, z08, z09, z0a, z0b, z0d, z0e, z0g, z0j, z0m, z0o, z0p, z0q, z0s, z0t, z0v, z0w, z0z, z10, z11, z13, z18, z1e, z1v, z1z, z2b, z2d, z2u, z2x, z3b, z3c, z3f, z4e, z4f, z4g, z4h, z4i, z4z, z50, z51, z5a, evalC_block, Nat.reduceEqDiff, ↓reduceIte, Hp.cell, tElemx37, tPartx22, hlt', hnn, hg', ne_f hb', ne_f0 hb', lt_t hb', lt_t0 hb', e0, Int.toNat_natCast, Nat.mul_one, eq_true q10]
          exact Al.done hkh hr rfl
        simp (maxDischargeDepth := 16) only [z04, z08, z09, z0a, z0b, z0c, z0d, z0e, z0p, z0q, z0s, z0t, z0v, z0w, z0x, z0z, z10, z11, z13, z18, z1e, z1l, z1v, z1z, z2b, z2d, z2u, z2x, z3b, z3h, z3x, z3y, z3z, z41, z43, z46, z4e, z4f, z4g, z4h, z4i, z4j, z4k, z4l, z4p, z4q, z4r, z4s, z4u, z4v, z4z, z50, z51, z53, z5a, z5b, evalC_block, Nat.reduceAdd, Nat.reduceSub, ↓reduceIte, Hp.cell, Hp.row, hasBx16, tElemx37, tPartx22, tPartx36, hlt', hnn, hg', ne_f hb', ne_f0 hb', lt_t hb', lt_t0 hb', e0, Int.toNat_natCast, Nat.mul_one, q10, g5]
        refine al_kops (run16 (I := IS20) rfl rfl rfl rfl rfl rfl rfl rfl (p := (· < m2.size)) (R36.mono hV (fun b hb => by have := hb.2; omega) (by simp) (Fr.of fun b hb => hk.get b (by have := hb.2; omega))) (fun b hb => by omega) (by omega) hy (by omega) n hnb) ?_
        rintro v k3 hk3 hr3 ⟨ds, rfl, hd⟩
        rw [q0] at hd ⊢
        rw [if_pos rfl] at hd
        have f17e : f17 y n = f57 y n := by unfold f17; rw [q0, if_pos rfl]
        obtain ⟨l1, l2, l3, rfl, -, -, -, -, -, -, hl1, -, -, -, -, -, hl2, -, -, -, -, -, -, -, hl3, -⟩ := R47_inv hd
        have hs3 := hk3.size
        have g5' : k3.get m2.size = _ := (hk3.get _ (by omega)).trans g5
        have g6' : k3.get (m2.size + 1) = _ := (hk3.get _ (by omega)).trans g6
        have ol1 : oneC l1 = true := R34.rone hl1 l1 (List.mem_singleton.2 rfl)
        have ol2 : oneC l2 = true := R25.rone hl2 l2 (List.mem_singleton.2 rfl)
        have ol3 : oneC l3 = true := R43.rone hl3 l3 (List.mem_singleton.2 rfl)
        have t0 : (k3.ro ≤ k3.size) = True := by simp; omega
        have t1 : ∀ j, (k3.ro ≤ k3.size + j) = True := fun j => by simp; omega
        have n5 : m2.size < k3.size := by omega
        have n6 : m2.size + 1 < k3.size := by omega
        have n7 : m2.size ≤ k3.size := by omega
        have n8 : ∀ j, m2.size ≤ k3.size + j := fun j => by omega
        have hk23 : Keeps m2 k3 := hk.trans hk3
        have c17 := call_rdk (P := Try.prog) (A := A36i) (I := IS20) (f := 17) (spec := fun x => .tuple #[vAt (f17 x.1 x.2.1).1 (f17 x.1 x.2.1).2.1, .bool (f17 x.1 x.2.1).2.2]) rfl N (show A36i.r (· < m2.size) m2 [_, _] (y, n, ()) from ⟨_, _, rfl, R36.mono hV (fun b hb => by have := hb.2; omega) (by simp) (Fr.refl _), _, _, rfl, ⟨rfl, hnb⟩, rfl⟩) (by omega)
        simp only [f17e] at c17
        have c19 := call_rdk (P := Try.prog) (A := A36i) (I := IS20) (f := 19) (spec := fun x => .tuple #[vAt (f61 x.1 x.2.1).1 (f61 x.1 x.2.1).2.1, .bool (f61 x.1 x.2.1).2.2]) rfl N (show A36i.r (· < m2.size) m2 [_, _] (y, n, ()) from ⟨_, _, rfl, R36.mono hW (fun b hb => by have := hb.2; omega) (by simp) (Fr.refl _), _, _, rfl, ⟨rfl, hnb⟩, rfl⟩) (by omega)
        have hyb := u64_bounds (show IntKind.u64.min ≤ y.2.1.1.1 ∧ y.2.1.1.1 ≤ IntKind.u64.max by obtain ⟨_, _, _, _, h, _⟩ := R36_inv hV; exact h)
        have f61e : f61 y n = f57 y n := f61_eq q0 hyb.1 (by have := hy.ents; omega) n
        simp only [f61e] at c19
        simp (maxDischargeDepth := 16) only [z04, z08, z09, z0a, z0c, z0d, z0e, z0p, z0q, z0s, z0t, z0u, z0v, z0x, z0z, z10, z11, z14, z1a, z1e, z1f, z1g, z1l, z1v, z1w, z1x, z2h, z2o, z2t, z2x, z2y, z2z, z34, z35, z3a, z3b, z3h, z3p, z3q, z3v, z3w, z3x, z3y, z3z, z41, z43, z44, z45, z46, z49, z4a, z4b, z4c, z4d, z4e, z4f, z4g, z4h, z4i, z4j, z4k, z4l, z4m, z4n, z4o, z4p, z4q, z4r, z4s, z4u, z4v, z4z, z53, z5c, z5f, z72, z7t, z7w, z7x, Nat.reduceAdd, Nat.reduceSub, ↓reduceIte, Hp.row, Hp.wr, hasBx17, hasBx19, tPartx36, tSizex24, tSizex47, tZerox24, tZerox47, ol1, ol2, ol3, t0, t1, g5', g6', ne_f n5, ne_f0 n5, lt_t n5, lt_t0 n5, ne_f n6, ne_f0 n6, lt_t n6, lt_t0 n6, n7, n8, hk23, c17, c19]
        rw [evalDraw_modes _ _ [(0, 0, 1), (0, 1, 3), (0, 3, 7), (2, 7, 15), (2, 7, 23), (0, 7, 39), (2, 55, 119), (1, 127, 255), (0, 255, 511), (0, 511, 1023), (0, 1023, 2047), (0, 2047, 4095), (0, 2047, 6143), (0, 8191, 16383), (0, 16383, 32767), (0, 32767, 65535), (2, 65535, 131071), (2, 65535, 196607), (0, 262143, 524287), (0, 524287, 1048575)] (by kernel_rfl)]
        have il1 := vin_mono (q := (· < k3.size)) (fun b hb => hb.2) (R34.rvin hl1 l1 (List.mem_singleton.2 rfl))
        have il2 := vin_mono (q := (· < k3.size)) (fun b hb => hb.2) (R25.rvin hl2 l2 (List.mem_singleton.2 rfl))
        have il3 := vin_mono (q := (· < k3.size)) (fun b hb => hb.2) (R43.rvin hl3 l3 (List.mem_singleton.2 rfl))
        have vl1 := fun kept bits => vb_old (s0 := k3.size + 3) (kept := kept) (bits := bits) (vin_mono (fun b hb => by omega) il1)
        have vl2 := fun kept bits => vb_old (s0 := k3.size + 3) (kept := kept) (bits := bits) (vin_mono (fun b hb => by omega) il2)
        have vl3 := fun kept bits => vb_old (s0 := k3.size + 3) (kept := kept) (bits := bits) (vin_mono (fun b hb => by omega) il3)
        have iw3 := vin_mono (q := (· < m2.size)) (fun b hb => by have := hb.2; omega) (R25.rvin hw1 _ (List.mem_singleton.2 rfl))
        have iw4 := vin_mono (q := (· < m2.size)) (fun b hb => by have := hb.2; omega) (R34.rvin hw2 _ (List.mem_singleton.2 rfl))
        have vw3 := fun kept bits => vb_old (s0 := k3.size + 3) (kept := kept) (bits := bits) (vin_mono (fun b hb => by omega) iw3)
        have vw4 := fun kept bits => vb_old (s0 := k3.size + 3) (kept := kept) (bits := bits) (vin_mono (fun b hb => by omega) iw4)
        simp (maxDischargeDepth := 16) only [z0t, z0v, z0w, z0x, z0z, z10, z13, z1e, z1l, z1v, z2c, z2x, z33, z34, z35, z38, z39, z3a, z3b, z3h, z3x, z3y, z3z, z41, z43, z44, z45, z46, z4a, z4b, z4e, z4f, z4g, z4h, z4i, z4j, z4k, z4l, z4m, z4n, z4o, z4p, z4q, z4r, z4s, z4u, z4v, z4z, z52, z53, z5a, z5c, z5e, z5f, z5j, z5l, z5u, z5y, z61, z62, z63, z6d, z6g, z6t, z6v, z6x, z70, z71, Nat.reduceEqDiff, Nat.reduceAdd, Nat.reduceSub, ↓reduceIte, yielded, keepR, Hp.row, hasBx20, tPartx36, tPartx47, vl1, vl2, vl3, vw3, vw4, g6', ne_f n5, ne_f0 n5, lt_t n5, lt_t0 n5, ne_f n6, ne_f0 n6, lt_t n6, lt_t0 n6]
        refine al_kd2 (run20 (I := IS20) rfl rfl rfl rfl rfl rfl (p := (· < m2.size)) (R36.mono hW (fun b hb => by have := hb.2; omega) (by simp) ((view_keeps (by repeat (first | assumption | exact Keeps.refl _ | refine Keeps.push ?_ _ | refine Keeps.set ?_ (by first | omega | (simp only [Hp.size_push, Hp.size_setB]; omega)) _)) (by simp)).fr (fun b hb => by have := hb.2; omega))) (fun b hb => by rw [view_size]; simp only [Hp.size_push, Hp.size_setB]; omega) (by rw [view_ro, view_size]; exact Nat.le_refl _) hy (by omega) q0 n hnb) ?_ (by decide) ?_
        · rintro v k' hk' ⟨ds, rfl, hd⟩
          exact vin_agg fun c hc => vin_mono (fun b hb => .inr (by have h := hb.1; rw [view_size] at h; exact ⟨h, hb.2⟩)) (R47.rvin hd c hc)
        rintro v k4 m4 hk4 ⟨ds4, rfl, hd4⟩ hp1 hp2 hp3 hp4
        have hs4 := hk4.size
        rw [view_size] at hs4
        simp only [Hp.size_push, Hp.size_setB] at hs4
        have hk34 : Keeps k3 m4 := keeps_of (k := (((((k3.push _).setB k3.size _).push _).setB (k3.size + 1) _).push _).setB (k3.size + 2) _) (by repeat (first | assumption | exact Keeps.refl _ | refine Keeps.push ?_ _ | refine Keeps.set ?_ (by first | omega | (simp only [Hp.size_push, Hp.size_setB]; omega)) _)) (by simp only [Hp.size_push, Hp.size_setB]; omega) hp3
        have hf4 := R47.mono (Rp.fresh hd4 fun h => hp4 h _ (fun b hb => ⟨hb.2, .inr (by have h := hb.1; rw [view_size] at h; exact h)⟩)) (p' := fun b => k3.size + 3 ≤ b ∧ b < k4.size) (fun b hb => ⟨by have h := hb.1; rw [view_size] at h; simpa using h, hb.2⟩) id (Fr.refl _)
        have gA := hp3 k3.size (by first | omega | (simp only [Hp.size_push, Hp.size_setB, Hp.ro_push, Hp.ro_setB]; omega))
        have gB := hp3 (k3.size + 1) (by first | omega | (simp only [Hp.size_push, Hp.size_setB, Hp.ro_push, Hp.ro_setB]; omega))
        have gC := hp3 (k3.size + 2) (by first | omega | (simp only [Hp.size_push, Hp.size_setB, Hp.ro_push, Hp.ro_setB]; omega))
        simp (maxDischargeDepth := 16) only [z33, z34, z35, z36, z38, z39, z3a, z4a, z4b, z4c, z4d, Nat.reduceEqDiff, Nat.reduceAdd, ↓reduceIte] at gA gB gC hp2
        have g5'' : m4.get m2.size = _ := (hk34.get _ (by omega)).trans g5'
        have g6'' : m4.get (m2.size + 1) = _ := (hk34.get _ (by omega)).trans g6'
        have c18 := call_rdk (P := Try.prog) (A := A47) (I := IS20) (f := 18) (spec := fun x => .bool (decide (same18 x.1 x.2.1))) rfl N (h := m4.view 127 (keepS 6 (k3.size + 3) k4.size [])) (show A47.r (· < (m4.view 127 (keepS 6 (k3.size + 3) k4.size [])).size) _ [_, _] (offD y n, offD y n, ()) from
          ⟨_, _, rfl, R47.mono hd (fun b hb => by rw [view_size]; have := hb.2; omega) (by simp) (Fr.of fun b hb => by have := hb.2; rw [view_keepS (by omega), view_nil, hk34.get b (by omega)]),
            _, _, rfl, R47.mono hf4 (fun b hb => by rw [view_size]; have := hb.2; omega) (by simp) (Fr.of fun b hb => by rw [view_keepS' (by decide), view_nil]), rfl⟩) (by omega) _ (Keeps.refl _)
        have hsame : same18 (offD y n) (offD y n) := ⟨rfl, rfl, rfl, rfl, rfl, rfl, rfl, rfl, rfl, rfl, rfl, rfl, rfl, rfl⟩
        simp only [eq_true hsame] at c18
        have ne57 := ne24 ((f57 y n).1, (f57 y n).2.1) ((f57 y n).1, (f57 y n).2.1)
        have y1 : k3.size + 1 < k3.size + 3 := by omega
        have y2 : k3.size + 2 < k3.size + 3 := by omega
        simp (maxDischargeDepth := 16) only [z04, z08, z09, z0a, z0c, z0d, z0e, z0q, z0s, z0t, z0v, z0w, z0x, z0z, z10, z12, z13, z14, z16, z1e, z1l, z1v, z1y, z2h, z2w, z2x, z3a, z3b, z3h, z3x, z3y, z3z, z41, z43, z44, z45, z46, z4a, z4b, z4e, z4f, z4g, z4h, z4i, z4j, z4k, z4l, z4m, z4n, z4o, z4p, z4q, z4r, z4s, z4u, z4v, z4z, z50, z51, z52, z53, z59, z5a, z5c, z5e, z5f, z5j, z5l, z5n, z5t, z5u, z5y, z60, z61, z62, z63, z6d, z6g, z6k, z6t, z6v, z6x, z7h, z89, Nat.reduceAdd, Nat.reduceSub, ↓reduceIte, yielded, keepR, Hp.cell, Hp.row, hasBx18, hasBx21, tBoolx4, tFieldAx47x5, tPartx24, tPartx34, gA, gB, gC, c18, ne57, y1, y2]
        obtain ⟨hE1, hE2⟩ : (offD y n).2.2.2.2.2.1.length ≤ 8 ∧ ∀ e ∈ (offD y n).2.2.2.2.2.1, e.2.2.2.length ≤ 50 := by
          unfold offD
          split
          · exact ⟨by simp, fun e he => by simp at he⟩
          · refine ⟨by simp only [List.length_take]; omega, fun e he => ?_⟩
            have := hy.ups e (List.mem_of_mem_drop (List.mem_of_mem_take he))
            omega
        have hE3 : (offD y n).2.2.2.2.2.2.2.2.2.2.1.2.1.length ≤ 20 := by
          unfold offD
          split
          · exact hy.routes
          · simp
        refine ex_kops (run21 (I := IS20) rfl (p := fr k k3) (R34.mono hl1 (fun _ h => h) id (hk34.fr (fun b hb => hb.2))) (fun b hb => ⟨by have := hb.2; omega, by have := hb.1; omega⟩) (by omega) (by omega) hE2) ?_
        rintro _ k5 ⟨hz1, hz2, hz3, hz4⟩
        have hnum := hz4 _ _ (NumR.of (R25.mono hl2 (fun _ h => h) id (hk34.fr (fun b hb => hb.2))))
        obtain ⟨lo2, lc2, rfl, -⟩ := slice_form hl2
        have hgA5 : k5.get k3.size = _ := (hz3 _ (fun h => by have := h.2; omega)).trans gA
        have gB5 : k5.get m2.size = _ := (hz3 _ (fun h => by have := h.1; omega)).trans g5''
        have gC5 : k5.get (m2.size + 1) = _ := (hz3 _ (fun h => by have := h.1; omega)).trans g6''
        simp (maxDischargeDepth := 16) only [z08, z09, z0d, z0e, z0p, z0q, z0s, z0t, z0v, z0w, z0z, z10, z16, z1e, z1p, z1r, z1v, z2w, z2x, z3b, z4e, z4f, z4g, z4h, z4i, z4m, z4n, z4o, z50, z51, z53, z54, evalC_block, Nat.reduceAdd, Hp.cell, tFieldAx27x0, tFieldAx33x1, tFieldAx47x10, tLenx25, tPartx25, hgA5]
        obtain ⟨mm, hmm⟩ : ∃ mm, mm = (offD y n).2.2.2.2.2.2.2.2.2.2.1.2.1.length := ⟨_, rfl⟩
        refine loop_rule (Al h _) (fun m x k6 => ∃ (j : Nat), m = mm - j ∧ j ≤ mm ∧ (k6.size = k5.size ∧ k6.ro = k5.ro ∧ ∀ b, ¬ fr k k3 b → k6.get b = k5.get b) ∧ NumR (fr k k3) k6 (.slice lo2 (offD y n).2.2.2.2.2.2.2.2.2.2.1.2.1.length lc2) 21 ∧
          x.tmps.size = 129 ∧ x.defers = [] ∧ x.tmps.getD 1 undef = .slice (some ⟨b, off, none⟩) ns.length c ∧ x.tmps.getD 5 undef = .pointer (some ⟨m2.size, 0, none⟩) ∧ x.tmps.getD 6 undef = .pointer (some ⟨m2.size + 1, 0, none⟩) ∧ x.tmps.getD 7 undef = .bool true ∧ x.tmps.getD 8 undef = .int .i64 0 ∧ x.tmps.getD 11 undef = .pointer (some ⟨k3.size, 0, none⟩) ∧ x.tmps.getD 40 undef = .slice (some ⟨b, off, none⟩) ns.length c ∧ x.tmps.getD 41 undef = .int .i64 (ns.length : Int) ∧ x.tmps.getD 42 undef = .int .i64 (i : Int) ∧ x.tmps.getD 112 undef = .int .i64 (mm : Int) ∧ x.tmps.getD 113 undef = .int .i64 (j : Int)) ?_ _ mm _ _ ?_ ?_
        · intro m5 n5' x k6 hI6 ih2
          obtain ⟨j, hm5, hj, ⟨hw1', hw2', hw3'⟩, hnum6, hxs, hxd, l1, l5, l6, l7, l8, l11, l40, l41, l42, l112, l113⟩ := hI6
          obtain ⟨g, rfl⟩ : ∃ g : Nat → Value, x = { tmps := #[g 0, .slice (some ⟨b, off, none⟩) ns.length c, g 2, g 3, g 4, .pointer (some ⟨m2.size, 0, none⟩), .pointer (some ⟨m2.size + 1, 0, none⟩), .bool true, .int .i64 0, g 9, g 10, .pointer (some ⟨k3.size, 0, none⟩), g 12, g 13, g 14, g 15, g 16, g 17, g 18, g 19, g 20, g 21, g 22, g 23, g 24, g 25, g 26, g 27, g 28, g 29, g 30, g 31, g 32, g 33, g 34, g 35, g 36, g 37, g 38, g 39, .slice (some ⟨b, off, none⟩) ns.length c, .int .i64 (ns.length : Int), .int .i64 (i : Int), g 43, g 44, g 45, g 46, g 47, g 48, g 49, g 50, g 51, g 52, g 53, g 54, g 55, g 56, g 57, g 58, g 59, g 60, g 61, g 62, g 63, g 64, g 65, g 66, g 67, g 68, g 69, g 70, g 71, g 72, g 73, g 74, g 75, g 76, g 77, g 78, g 79, g 80, g 81, g 82, g 83, g 84, g 85, g 86, g 87, g 88, g 89, g 90, g 91, g 92, g 93, g 94, g 95, g 96, g 97, g 98, g 99, g 100, g 101, g 102, g 103, g 104, g 105, g 106, g 107, g 108, g 109, g 110, g 111, .int .i64 (mm : Int), .int .i64 (j : Int), g 114, g 115, g 116, g 117, g 118, g 119, g 120, g 121, g 122, g 123, g 124, g 125, g 126, g 127, g 128], defers := [] } := ⟨fun k => x.tmps.getD k undef, (act_eta hxs hxd).trans (by simp only [unrollL, Nat.reduceAdd, Nat.zero_add, l1, l5, l6, l7, l8, l11, l40, l41, l42, l112, l113])⟩; clear hxs hxd l1 l5 l6 l7 l8 l11 l40 l41 l42 l112 l113
          have hgA6 : k6.get k3.size = _ := (hw3' _ (fun h => by have := h.2; omega)).trans hgA5
          have gB6 : k6.get m2.size = _ := (hw3' _ (fun h => by have := h.1; omega)).trans gB5
          have gC6 : k6.get (m2.size + 1) = _ := (hw3' _ (fun h => by have := h.1; omega)).trans gC5
          have hk26 : Keeps m2 k6 := ⟨by omega, fun b hb => by rw [hw3' b (fun h => by have := h.1; omega), hz3 b (fun h => by have := h.1; omega), hk34.get b (by omega), hk23.get b hb]⟩
          by_cases hlt2 : j < mm
          · have hlt2' := lt_cast hlt2
            obtain ⟨p1, p2, p3⟩ := dec_meas hlt2 hm5
            have hnj : (0 ≤ (j : Int)) = True := by simp
            have w4 : IntKind.i64.wrap ((j : Int) + 1) = ((j + 1 : Nat) : Int) := i64_succ (by omega)
            have hnum6' := hnum6
            obtain ⟨o', m', c', e, hnum2⟩ := hnum6
            cases e
            rw [← hmm] at hnum2
            obtain h0 | ⟨b', off', cb, rfl, hqb, hgb, hsb, hrange⟩ := hnum2
            · omega
            obtain ⟨z, hz, hzn⟩ := hrange (off' + (j * 21 + 20)) (by omega) (by omega)
            have rb : (k6.ro ≤ b') = True := by have := hqb.1; simp; omega
            have hle3 : (off' + (j * 21 + 21) ≤ cb.size) = True := by simp; omega
            rw [← hmm] at hgA6
            simp (maxDischargeDepth := 16) only [z04, z08, z09, z0a, z0b, z0d, z0e, z0h, z0k, z0p, z0q, z0s, z0t, z0u, z0v, z0w, z0z, z10, z11, z13, z16, z18, z1e, z1f, z1v, z1w, z1x, z1z, z24, z2d, z2m, z2u, z2w, z2x, z2y, z3a, z3b, z3p, z3v, z3w, z44, z45, z49, z4e, z4f, z4g, z4h, z4i, z4m, z4n, z4o, z4p, z4q, z4r, z50, z51, z53, z54, z5a, z5f, z72, evalC_block, Nat.reduceAdd, ↓reduceIte, Hp.cell, Hp.wr, tElemx25, tFieldAx27x0, tFieldAx33x1, tFieldAx47x10, tFieldAx61x3, tPartx25, tSizex3, hlt2', hnj, hgA6, hgb, Int.toNat_natCast, rb, hle3, w4]
            refine ih2 (m5 - 1) _ _ p1 ⟨j + 1, p2, p3, ⟨hw1', hw2', fun b2 hb2 => ?_⟩, hnum6'.write hgb hz (w := .int .i64 99) rfl, rfl, rfl, rfl, rfl, rfl, rfl, rfl, rfl, rfl, rfl, rfl, rfl, rfl⟩
            rw [get_set_ne (fun e => hb2 (by rw [e]; exact hqb))]
            exact hw3' b2 hb2
          · have hlt2' := nlt_cast hlt2
            have c22 := call_rdk (P := Try.prog) (A := A362) (I := IS20) (f := 22) (spec := fun x => .bool (decide (x.1 = x.2.1))) rfl N (show A362.r (· < m2.size) m2 [_, _] (y, y, ()) from ⟨_, _, rfl, R36.mono hV (fun b hb => by have := hb.2; omega) (by simp) (Fr.refl _), _, _, rfl, R36.mono hW (fun b hb => by have := hb.2; omega) (by simp) (Fr.refl _), rfl⟩) (by omega) k6 hk26
            simp (maxDischargeDepth := 16) only [z04, z06, z08, z09, z0a, z0c, z0d, z0e, z0g, z0h, z0j, z0k, z0m, z0p, z0q, z0s, z0t, z0v, z0w, z0x, z0z, z10, z13, z14, z1e, z1l, z1v, z24, z2d, z2h, z2x, z3b, z3h, z3x, z3y, z3z, z41, z43, z46, z4e, z4f, z4g, z4h, z4i, z4j, z4k, z4l, z4p, z4q, z4r, z4s, z4u, z4v, z4z, z53, z5a, z5b, z5c, Nat.reduceAdd, Nat.reduceSub, ↓reduceIte, Hp.row, hasBx22, tPartx36, hlt2', gB6, gC6, c22, w3]
            exact ih (m - 1) _ _ q1 ⟨i + 1, q2, q3, hk26, gB6, gC6, by omega, by omega, rfl, rfl, rfl, rfl, rfl, rfl, rfl, rfl, rfl, rfl⟩
        · omega
        · rw [hmm]
          exact ⟨0, by omega, by omega, ⟨rfl, rfl, fun _ _ => rfl⟩, hnum, rfl, rfl, rfl, rfl, rfl, rfl, rfl, rfl, rfl, rfl, rfl, rfl, rfl⟩
      · have hlt' := nlt_cast hlt
        simp (maxDischargeDepth := 16) only [z05, z06, z08, z09, z0a, z0c, z0d, z0e, z0g, z0j, z0m, z0o, z0p, z0q, z0s, z0t, z0v, z0w, z0z, z11, z13, z2d, z3b, z3c, z3f, z4e, z4f, z4g, z4h, z4i, z4z, z5b, ↓reduceIte, hlt']
        exact Al.done (hkm2.trans hk) hr rfl
    · omega
    · exact ⟨0, by omega, by omega, (by repeat (first | assumption | exact Keeps.refl _ | refine Keeps.push ?_ _ | refine Keeps.set ?_ (by first | omega | (simp only [Hp.size_push, Hp.size_setB]; omega)) _)), by simp (maxDischargeDepth := 16) only [z33, z35, z38, z39, ↓reduceIte], by simp (maxDischargeDepth := 16) only [z33], by simp only [Hp.size_push, Hp.size_setB]; omega, by simp only [Hp.ro_push, Hp.ro_setB]; omega, rfl, rfl, rfl, rfl, rfl, rfl, rfl, rfl, rfl, rfl⟩
  · rw [q0] at hre c15
    rw [show f14 y = false from by rw [hre]; rfl] at c14
    simp (maxDischargeDepth := 16) only [z04, z08, z09, z0a, z0c, z0d, z0e, z0p, z0q, z0r, z0s, z0t, z0v, z0w, z0x, z0z, z10, z11, z12, z13, z14, z1e, z1l, z1p, z1r, z1v, z1y, z2b, z2c, z2h, z2x, z33, z35, z38, z39, z3b, z3h, z3x, z3y, z3z, z41, z43, z46, z4e, z4f, z4g, z4h, z4i, z4j, z4k, z4l, z4m, z4n, z4o, z4p, z4q, z4r, z4s, z4u, z4v, z4z, z52, z53, z59, z5a, z5b, z5c, z5d, z5e, z7b, z7h, z7v, z7w, z7x, evalC_block, Nat.reduceAdd, Nat.reduceSub, ↓reduceIte, Int.reduceEq, yielded, Hp.row, hasBx15, tBoolx4, tLenx37, tPartx36, c14, c15]
    refine loop_rule (Al h _) (fun m x k => ∃ i : Nat, m = ns.length - i ∧ i ≤ ns.length ∧ Keeps m2 k ∧ k.get m2.size = some (.cells #[.int .u64 y.1, .int .u64 y.2.1.1.1, .int .u64 y.2.1.1.2, .slice o1 y.2.1.2.1.length z1', .int .u32 y.2.1.2.2.1.1, .int .u64 y.2.1.2.2.1.2, .int .u32 y.2.1.2.2.2.1.1, .int .u64 y.2.1.2.2.2.1.2, .int .u32 y.2.1.2.2.2.2.1, .int .u64 y.2.1.2.2.2.2.2, .slice o2 y.2.2.length z2'] true) ∧ k.get (m2.size + 1) = some (.cells #[.int .u64 y.1, .int .u64 y.2.1.1.1, .int .u64 y.2.1.1.2, .slice o3 y.2.1.2.1.length z3', .int .u32 y.2.1.2.2.1.1, .int .u64 y.2.1.2.2.1.2, .int .u32 y.2.1.2.2.2.1.1, .int .u64 y.2.1.2.2.2.1.2, .int .u32 y.2.1.2.2.2.2.1, .int .u64 y.2.1.2.2.2.2.2, .slice o4 y.2.2.length z4'] true) ∧ m2.size + 2 ≤ k.size ∧ k.ro = h.ro ∧ x.tmps.size = 129 ∧ x.defers = [] ∧ x.tmps.getD 1 undef = .slice a ns.length c ∧ x.tmps.getD 5 undef = .pointer (some ⟨m2.size, 0, none⟩) ∧ x.tmps.getD 6 undef = .pointer (some ⟨m2.size + 1, 0, none⟩) ∧ x.tmps.getD 7 undef = .bool false ∧ x.tmps.getD 8 undef = .int .i64 240 ∧ x.tmps.getD 40 undef = .slice a ns.length c ∧ x.tmps.getD 41 undef = .int .i64 (ns.length : Int) ∧ x.tmps.getD 42 undef = .int .i64 (i : Int)) ?_ _ ns.length _ _ ?_ ?_
    · intro m n' x k hI' ih
      obtain ⟨i, hm, hi, hk, g5, g6, hsz, hr, hxs, hxd, l1, l5, l6, l7, l8, l40, l41, l42⟩ := hI'
      obtain ⟨g, rfl⟩ : ∃ g : Nat → Value, x = { tmps := #[g 0, .slice a ns.length c, g 2, g 3, g 4, .pointer (some ⟨m2.size, 0, none⟩), .pointer (some ⟨m2.size + 1, 0, none⟩), .bool false, .int .i64 240, g 9, g 10, g 11, g 12, g 13, g 14, g 15, g 16, g 17, g 18, g 19, g 20, g 21, g 22, g 23, g 24, g 25, g 26, g 27, g 28, g 29, g 30, g 31, g 32, g 33, g 34, g 35, g 36, g 37, g 38, g 39, .slice a ns.length c, .int .i64 (ns.length : Int), .int .i64 (i : Int), g 43, g 44, g 45, g 46, g 47, g 48, g 49, g 50, g 51, g 52, g 53, g 54, g 55, g 56, g 57, g 58, g 59, g 60, g 61, g 62, g 63, g 64, g 65, g 66, g 67, g 68, g 69, g 70, g 71, g 72, g 73, g 74, g 75, g 76, g 77, g 78, g 79, g 80, g 81, g 82, g 83, g 84, g 85, g 86, g 87, g 88, g 89, g 90, g 91, g 92, g 93, g 94, g 95, g 96, g 97, g 98, g 99, g 100, g 101, g 102, g 103, g 104, g 105, g 106, g 107, g 108, g 109, g 110, g 111, g 112, g 113, g 114, g 115, g 116, g 117, g 118, g 119, g 120, g 121, g 122, g 123, g 124, g 125, g 126, g 127, g 128], defers := [] } := ⟨fun k => x.tmps.getD k undef, (act_eta hxs hxd).trans (by simp only [unrollL, Nat.reduceAdd, Nat.zero_add, l1, l5, l6, l7, l8, l40, l41, l42])⟩; clear hxs hxd l1 l5 l6 l7 l8 l40 l41 l42
      by_cases hlt : i < ns.length
      · have hlt' := lt_cast hlt
        obtain ⟨q1, q2, q3⟩ := dec_meas hlt hm
        obtain ⟨n, hn⟩ : ∃ n, ns[i]? = some n := ⟨_, List.getElem?_eq_getElem hlt⟩
        obtain ⟨b, off, _, cells, ow, part, e, hb0, hg, -, hp', hle, -, he⟩ := elem_at (s := 1) rn hn rfl (by decide)
        cases e
        obtain ⟨rfl, hnb⟩ := Rp.int_inv hp'
        have e0 : cells[off + i]? = some (.int .u64 n) := by have := he 0 (by decide); simpa using this
        have hb : b < h.size := hb0
        have hs2' := hkm2.size
        have hb' : b < k.size := by omega
        have hg' : k.get b = some (.cells cells ow) := by rw [hk.get b (by omega), hkm2.get b hb]; exact hg
        have hnn : (0 ≤ (i : Int)) = True := by simp
        have w3 : IntKind.i64.wrap ((i : Int) + 1) = ((i + 1 : Nat) : Int) := i64_succ (by omega)
        have hkh : Keeps h k := hkm2.trans hk
        by_cases q10 : (i : Int) = 10
        · simp (maxDischargeDepth := 16) only [z04, z05, z06, z08, z09, z0a, z0b, z0d, z0e, z0g, z0j, z0m, z0o, z0p, z0q, z0s, z0t, z0v, z0w, z0z, z10, z11, z13, z18, z1e, z1v, z1z, z2b, z2d, z2u, z2x, z3b, z3c, z3f, z4e, z4f, z4g, z4h, z4i, z4z, z50, z51, z5a, evalC_block, Nat.reduceEqDiff, ↓reduceIte, Hp.cell, tElemx37, tPartx22, hlt', hnn, hg', ne_f hb', ne_f0 hb', lt_t hb', lt_t0 hb', e0, Int.toNat_natCast, Nat.mul_one, eq_true q10]
          exact Al.done hkh hr rfl
        simp (maxDischargeDepth := 16) only [z04, z08, z09, z0a, z0b, z0c, z0d, z0e, z0p, z0q, z0s, z0t, z0v, z0w, z0x, z0z, z10, z11, z13, z18, z1e, z1l, z1v, z1z, z2b, z2d, z2u, z2x, z3b, z3h, z3x, z3y, z3z, z41, z43, z46, z4e, z4f, z4g, z4h, z4i, z4j, z4k, z4l, z4p, z4q, z4r, z4s, z4u, z4v, z4z, z50, z51, z53, z5a, z5b, evalC_block, Nat.reduceAdd, Nat.reduceSub, ↓reduceIte, Hp.cell, Hp.row, hasBx16, tElemx37, tPartx22, tPartx36, hlt', hnn, hg', ne_f hb', ne_f0 hb', lt_t hb', lt_t0 hb', e0, Int.toNat_natCast, Nat.mul_one, q10, g5]
        refine al_kops (run16 (I := IS20) rfl rfl rfl rfl rfl rfl rfl rfl (p := (· < m2.size)) (R36.mono hV (fun b hb => by have := hb.2; omega) (by simp) (Fr.of fun b hb => hk.get b (by have := hb.2; omega))) (fun b hb => by omega) (by omega) hy (by omega) n hnb) ?_
        rintro v k3 hk3 hr3 ⟨ds, rfl, hd⟩
        rw [q0] at hd ⊢
        rw [if_neg (by decide)] at hd
        have f17e : f17 y n = (0, 0, false) := by unfold f17; rw [q0]; rfl
        obtain ⟨l1, l2, l3, rfl, -, -, -, -, -, -, hl1, -, -, -, -, -, hl2, -, -, -, -, -, -, -, hl3, -⟩ := R47_inv hd
        have hs3 := hk3.size
        have g5' : k3.get m2.size = _ := (hk3.get _ (by omega)).trans g5
        have g6' : k3.get (m2.size + 1) = _ := (hk3.get _ (by omega)).trans g6
        have ol1 : oneC l1 = true := R34.rone hl1 l1 (List.mem_singleton.2 rfl)
        have ol2 : oneC l2 = true := R25.rone hl2 l2 (List.mem_singleton.2 rfl)
        have ol3 : oneC l3 = true := R43.rone hl3 l3 (List.mem_singleton.2 rfl)
        have t0 : (k3.ro ≤ k3.size) = True := by simp; omega
        have t1 : ∀ j, (k3.ro ≤ k3.size + j) = True := fun j => by simp; omega
        have n5 : m2.size < k3.size := by omega
        have n6 : m2.size + 1 < k3.size := by omega
        have n7 : m2.size ≤ k3.size := by omega
        have n8 : ∀ j, m2.size ≤ k3.size + j := fun j => by omega
        have hk23 : Keeps m2 k3 := hk.trans hk3
        have c17 := call_rdk (P := Try.prog) (A := A36i) (I := IS20) (f := 17) (spec := fun x => .tuple #[vAt (f17 x.1 x.2.1).1 (f17 x.1 x.2.1).2.1, .bool (f17 x.1 x.2.1).2.2]) rfl N (show A36i.r (· < m2.size) m2 [_, _] (y, n, ()) from ⟨_, _, rfl, R36.mono hV (fun b hb => by have := hb.2; omega) (by simp) (Fr.refl _), _, _, rfl, ⟨rfl, hnb⟩, rfl⟩) (by omega)
        simp only [f17e] at c17
        have c18 := call_rdk (P := Try.prog) (A := A47) (I := IS20) (f := 18) (spec := fun x => .bool (decide (same18 x.1 x.2.1))) rfl N (h := k3) (show A47.r (· < k3.size) k3 [_, .agg #[.int .i64 0, .int .i64 0, .int .i64 0, .int .u64 0, .int .u64 0, .int .u64 0, .slice none 0 0, .int .u64 0, .bool false, .int .u64 0, .int .u64 0, .int .u64 0, .int .u64 0, .slice none 0 0, .int .u32 0, .int .u64 0, .int .u32 0, .int .u64 0, .int .u32 0, .int .u64 0, .int .u32 0, .slice none 0 0, .int .i64 0]] (zM, zM, ()) from ⟨_, _, rfl, R47.mono hd (fun b hb => hb.2) (by simp) (Fr.refl _), _, _, rfl, R47_mk (x := zM) i0 i0 i0 u0 u0 u0 nilR u0 u0 u0 u0 u0 nilR w0 u0 w0 u0 w0 u0 w0 nilR i0, rfl⟩) (by omega)
        have hsame : same18 zM zM := ⟨rfl, rfl, rfl, rfl, rfl, rfl, rfl, rfl, rfl, rfl, rfl, rfl, rfl, rfl⟩
        have ne0 := ne24 (0, 0) (0, 0)
        simp only [eq_true hsame] at c18
        simp (maxDischargeDepth := 16) only [z04, z06, z08, z09, z0a, z0b, z0c, z0d, z0e, z0g, z0j, z0k, z0p, z0q, z0r, z0s, z0t, z0u, z0v, z0w, z0x, z0z, z10, z11, z12, z13, z14, z1a, z1b, z1e, z1f, z1g, z1l, z1v, z1w, z1x, z1y, z24, z2c, z2h, z2o, z2t, z2x, z2y, z2z, z33, z34, z35, z38, z39, z3b, z3h, z3p, z3q, z3v, z3w, z3x, z3y, z3z, z41, z43, z44, z45, z46, z49, z4a, z4b, z4c, z4d, z4e, z4f, z4g, z4h, z4i, z4j, z4k, z4l, z4m, z4n, z4o, z4p, z4q, z4r, z4s, z4u, z4v, z4z, z50, z51, z52, z53, z59, z5a, z5c, z5d, z5e, z5f, z72, z7b, z7v, z7w, z7x, z80, z81, Nat.reduceAdd, Nat.reduceSub, ↓reduceIte, yielded, Hp.row, Hp.wr, hasBx17, hasBx18, tBuildOkx24, tBuildOkx47, tPartx24, tPartx36, tPartx47, tSizex24, tSizex47, tZerox24, tZerox47, ol1, ol2, ol3, t0, t1, g5', c18, ne0, ne_f n5, ne_f0 n5, lt_t n5, lt_t0 n5, ne_f n6, ne_f0 n6, lt_t n6, lt_t0 n6, n7, hk23, c17, w3]
        refine ih (m - 1) _ _ q1 ⟨i + 1, q2, q3, (by repeat (first | assumption | exact Keeps.refl _ | refine Keeps.push ?_ _ | refine Keeps.set ?_ (by first | omega | (simp only [Hp.size_push, Hp.size_setB]; omega)) _)), by simp (maxDischargeDepth := 16) only [z34, z35, z4a, z4b, ↓reduceIte, ne_f n5, ne_f0 n5, lt_t n5, lt_t0 n5, g5'], by simp (maxDischargeDepth := 16) only [z34, z35, z4a, z4b, ↓reduceIte, ne_f n6, ne_f0 n6, lt_t n6, lt_t0 n6, g6'], by simp only [Hp.size_push, Hp.size_setB]; omega, by simp only [Hp.ro_push, Hp.ro_setB]; omega, rfl, rfl, rfl, rfl, rfl, rfl, rfl, rfl, rfl, rfl⟩
      · have hlt' := nlt_cast hlt
        simp (maxDischargeDepth := 16) only [z05, z06, z08, z09, z0a, z0c, z0d, z0e, z0g, z0j, z0m, z0o, z0p, z0q, z0s, z0t, z0v, z0w, z0z, z11, z13, z2d, z3b, z3c, z3f, z4e, z4f, z4g, z4h, z4i, z4z, z5b, ↓reduceIte, hlt']
        exact Al.done (hkm2.trans hk) hr rfl
    · omega
    · exact ⟨0, by omega, by omega, (by repeat (first | assumption | exact Keeps.refl _ | refine Keeps.push ?_ _ | refine Keeps.set ?_ (by first | omega | (simp only [Hp.size_push, Hp.size_setB]; omega)) _)), by simp (maxDischargeDepth := 16) only [z33, z35, z38, z39, ↓reduceIte], by simp (maxDischargeDepth := 16) only [z33], by simp only [Hp.size_push, Hp.size_setB]; omega, by simp only [Hp.ro_push, Hp.ro_setB]; omega, rfl, rfl, rfl, rfl, rfl, rfl, rfl, rfl, rfl, rfl⟩
end Go.Abs.B1
