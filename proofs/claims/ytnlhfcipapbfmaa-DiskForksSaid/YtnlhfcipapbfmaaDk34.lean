/- A copy goes on by itself. -/
import Derived.Test.YtnlhfcipapbfmaaDk33
namespace Go.Abs.B1
open Go.Proofs
set_option maxRecDepth 10000
set_option maxHeartbeats 8000000
set_option linter.all false
section
variable {k : Hp}
theorem run10 {va vb : Value} {la lb : List T94} (n : Int) (ra : R88.r false (· < k.size) k [va] la) (rb : R88.r false (· < k.size) k [vb] lb) (hro : k.ro ≤ k.size) : ∃ N, Al k (fun _ w => w = .bool true) (evalV Try.prog I0 N (.fn 10) #[va, vb, .int .i64 n] k) := by
  refine ⟨la.length + lb.length + 300 + 1, ?_⟩
  generalize hN : la.length + lb.length + 300 = N
  obtain ⟨aa, ca, rfl, -, hla⟩ := slice_form ra
  obtain ⟨ab, cb, rfl, -, hlb⟩ := slice_form rb
  unfold capOpen at hla hlb
  obtain ⟨j, hj1, hj2, hj⟩ := size_eq n
  have h0 : I0 10 = none := rfl
  rw [evalV_call (P := Try.prog) (intr := I0) (f := 10) (m := 140) (rs := #[.tmp 6]) h0 Try.func10 rfl rfl rfl]
  simp (maxDischargeDepth := 16) only [z08, z09, z0d, z0e, z0p, z0q, z0s, z0t, z0w, z0x, z11, z1l, z3h, z4g, z4h, z4i, z4j, z4l, z4p, z4q, z4r, z4s, z4t, z4u, z4v, z4w, z4x, z4y, z53, Nat.reduceAdd, Nat.reduceSub, ↓reduceIte, hasBx35]
  refine ex_any (Al k _) (Al.ex (run_wakes jDk rfl (by omega) hro)) ?_
  rintro _ k0 ⟨hk0, hr0, rfl⟩
  have s0 := hk0.size
  simp (maxDischargeDepth := 16) only [z04, z08, z09, z0a, z0c, z0d, z0e, z0p, z0q, z0s, z0t, z0v, z0w, z0x, z0z, z10, z11, z13, z14, z15, z1l, z24, z2h, z3b, z3h, z4e, z4f, z4g, z4h, z4i, z4j, z4k, z4l, z4s, z4u, z4v, z50, z51, z5c, z7z, ↓reduceIte, hasBx36, tIntx3x102, tIntx102x3, bin_rem (show (24 : Int) ≠ 0 by decide), hj]
  refine ex_any (Al k _) (run_New (n := j) jDk (by omega) (by omega) hj1 (by omega)) ?_
  rintro _ k1 ⟨b, rfl, hb, hk1, hr1, d1⟩
  have s1 := hk1.size
  simp (maxDischargeDepth := 16) only [z04, z08, z09, z0a, z0c, z0d, z0e, z0p, z0q, z0s, z0t, z0v, z0w, z0x, z0z, z10, z11, z13, z1a, z1l, z2c, z2t, z3b, z3h, z4e, z4f, z4g, z4h, z4i, z4j, z4k, z4l, z4m, z4n, z4o, z4s, z4u, z4v, z5a, z5c, ↓reduceIte, hasBx41]
  refine ex_any (Al k _) (Al.ex (run_rNew (n := j) jRf (by omega) (by omega) (by omega))) ?_
  rintro _ k2 ⟨hk2, hr2, cm, rfl, rm⟩
  have s2 := hk2.size
  obtain ⟨u1, u2, rfl, hu1, hu2, -⟩ := R113_inv rm
  have ou1 := (R110).rone hu1 u1 (List.mem_singleton.2 rfl)
  have ou2 := (R111).rone hu2 u2 (List.mem_singleton.2 rfl)
  have r20 : (k2.ro ≤ k2.size) = True := by simp; omega
  have sp64 : ∀ (cs : List Value), cs.length = 64 → ∀ l : List Value, l.length = 64 → splice l.toArray 0 cs = cs.toArray := fun cs h l hl => splice_full (by simp [h, hl])
  simp (maxDischargeDepth := 16) only [z08, z09, z0d, z0e, z0p, z0q, z0s, z0t, z0u, z0v, z0w, z0z, z10, z1f, z1g, z1p, z1r, z1w, z1x, z2o, z2y, z2z, z34, z3b, z3p, z3q, z3v, z3w, z44, z45, z46, z49, z4c, z4e, z4f, z4g, z4h, z4i, z4p, z4q, z4r, z4z, z53, z5f, z72, evalC_block, Nat.reduceAdd, ↓reduceIte, Hp.wr, tLenx88, tSizex113, tZerox113, ou1, ou2, r20]
  refine loop_rule (Al k _) (fun m x h => ∃ (i : Nat) (D : DV) (S p : Nat → Prop) (u1 u2 : Value), m = la.length - i ∧ i ≤ la.length ∧ D.1.length = j ∧ Pair k h b k2.size S p u1 u2 D D ∧
    x.tmps.size = 140 ∧ x.defers = [] ∧ x.tmps.getD 1 undef = .slice ab lb.length cb ∧ x.tmps.getD 2 undef = .int .i64 (j : Int) ∧ x.tmps.getD 7 undef = .pointer (some ⟨b, 0, none⟩) ∧ x.tmps.getD 9 undef = .pointer (some ⟨k2.size, 0, none⟩) ∧ x.tmps.getD 40 undef = .slice aa la.length ca ∧ x.tmps.getD 41 undef = .int .i64 (la.length : Int) ∧ x.tmps.getD 42 undef = .int .i64 (i : Int)) ?_ _ la.length _ _ ?_ ?_
  · intro m n' x h hI' ih
    obtain ⟨i, D, S, p, u1, u2, hm, hi, hDj, P, hxs, hxd, l1, l2, l7, l9, l40, l41, l42⟩ := hI'
    obtain ⟨g, rfl⟩ : ∃ g : Nat → Value, x = { tmps := #[g 0, .slice ab lb.length cb, .int .i64 (j : Int), g 3, g 4, g 5, g 6, .pointer (some ⟨b, 0, none⟩), g 8, .pointer (some ⟨k2.size, 0, none⟩), g 10, g 11, g 12, g 13, g 14, g 15, g 16, g 17, g 18, g 19, g 20, g 21, g 22, g 23, g 24, g 25, g 26, g 27, g 28, g 29, g 30, g 31, g 32, g 33, g 34, g 35, g 36, g 37, g 38, g 39, .slice aa la.length ca, .int .i64 (la.length : Int), .int .i64 (i : Int), g 43, g 44, g 45, g 46, g 47, g 48, g 49, g 50, g 51, g 52, g 53, g 54, g 55, g 56, g 57, g 58, g 59, g 60, g 61, g 62, g 63, g 64, g 65, g 66, g 67, g 68, g 69, g 70, g 71, g 72, g 73, g 74, g 75, g 76, g 77, g 78, g 79, g 80, g 81, g 82, g 83, g 84, g 85, g 86, g 87, g 88, g 89, g 90, g 91, g 92, g 93, g 94, g 95, g 96, g 97, g 98, g 99, g 100, g 101, g 102, g 103, g 104, g 105, g 106, g 107, g 108, g 109, g 110, g 111, g 112, g 113, g 114, g 115, g 116, g 117, g 118, g 119, g 120, g 121, g 122, g 123, g 124, g 125, g 126, g 127, g 128, g 129, g 130, g 131, g 132, g 133, g 134, g 135, g 136, g 137, g 138, g 139], defers := [] } := ⟨fun k => x.tmps.getD k undef, (act_eta hxs hxd).trans (by simp only [unrollL, Nat.reduceAdd, Nat.zero_add, l1, l2, l7, l9, l40, l41, l42])⟩; clear hxs hxd l1 l2 l7 l9 l40 l41 l42
    have hs := P.keeps.size
    have wf := P.disk.wf
    have a7 := P.lt
    have hpro := P.ro
    have ou1 : oneC u1 = true := R113.rone P.md u1 (by simp [mdC])
    have ou2 : oneC u2 = true := R113.rone P.md u2 (by simp [mdC])
    rcases (show (i < la.length ∧ i ≠ 40) ∨ ((i < la.length ∧ i = 40) ∨ ¬ i < la.length) by omega) with ⟨hlt, h40⟩ | hex
    · have hlt' := lt_cast hlt
      have h40' : ((i : Int) = 40) = False := by simp; omega
      obtain ⟨q1, q2, q3⟩ := dec_meas hlt hm
      obtain ⟨z, hz⟩ : ∃ z, la[i]? = some z := ⟨_, List.getElem?_eq_getElem hlt⟩
      obtain ⟨b2, off2, _, cells2, ow2, part2, ee, hb2, hg2, -, hp2, hle2, hex2, -⟩ := elem_at (s := 5) ra hz rfl (by decide)
      cases ee
      have hp20 := hp2
      obtain ⟨w1, rfl, e1, e2, e3, e4, e5⟩ := R94_inv hp2
      have ow := (Rp.slice Rp.bool).rone e5 w1 (List.mem_singleton.2 rfl)
      have hgb := (P.keeps.get b2 hb2).trans hg2
      have hbb2 : b2 < h.size := by omega
      have hii : (0 ≤ (i : Int)) = True := by simp
      have w3 := i64_succ (i := i) (by omega)
      have rh0 : (h.ro ≤ h.size) = True := by simp; omega
      simp (maxDischargeDepth := 16) only [z04, z08, z09, z0a, z0b, z0c, z0d, z0e, z0p, z0q, z0s, z0t, z0u, z0v, z0w, z0x, z0z, z10, z11, z13, z18, z1e, z1f, z1g, z1l, z1v, z1w, z1x, z1z, z2b, z2d, z2o, z2u, z2x, z2y, z2z, z33, z34, z3a, z3b, z3h, z3p, z3v, z3w, z3x, z3y, z3z, z41, z43, z44, z45, z46, z49, z4c, z4e, z4f, z4g, z4h, z4i, z4j, z4k, z4l, z4p, z4q, z4r, z4s, z4u, z4v, z4z, z50, z51, z53, z5a, z5b, z5f, z72, evalC_block, Nat.reduceAdd, Nat.reduceSub, ↓reduceIte, Hp.row, Hp.wr, hasBx38, tElemx88, tPartx94, tSizex94, tZerox94, hlt', hii, hgb, ne_f hbb2, ne_f0 hbb2, lt_t hbb2, lt_t0 hbb2, hle2, hex2, Int.toNat_natCast, rh0, ow, h40']
      refine ex_ev (S := fun v h2 => v = .tuple #[.agg (deedS D z).2.1.toArray, .int .i64 (deedS D z).2.2] ∧ ∃ S2 : Nat → Prop, Pair k h2 b k2.size S2 p u1 u2 (deedS D z).1 D ∧ (∀ c, S2 c → c < h2.size) ∧ h.size < h2.size ∧ h2.get h.size = some (.cells #[.int .i64 z.1, .int .i64 z.2.1, .int .i64 z.2.2.1, .int .u8 z.2.2.2.1, w1] true)) (Al k _) (fun h1 hh1 => ?_) ?_
      · have s1' : h1.size = h.size + 1 := by rw [hh1]; simp only [Hp.size_setB, Hp.size_push]
        have r1' : h1.ro = h.ro := by rw [hh1]; simp only [Hp.ro_setB, Hp.ro_push]
        have k1' : Keeps h h1 := by rw [hh1]; exact (by repeat (first | assumption | exact Keeps.refl _ | refine Keeps.push ?_ _ | refine Keeps.set ?_ (by first | omega | (simp only [Hp.size_push, Hp.size_setB]; omega)) _))
        have g1' : h1.get h.size = some (.cells #[.int .i64 z.1, .int .i64 z.2.1, .int .i64 z.2.2.1, .int .u8 z.2.2.2.1, w1] true) := by rw [hh1, get_set_self]
        refine (does_pair (N := N) (P.keep k1' r1') (by omega) hp20).mono ?_
        rintro v h2 ⟨rfl, -, P2, c2⟩
        exact ⟨rfl, _, P2, fun c hc => (P2.disk.own c hc).2, by have := c2.1; omega, (c2.2.2 _ (by omega) (fun hS => by have := (P.disk.own _ hS).2; omega)).trans g1'⟩
      rintro _ h2 ⟨rfl, S2, P2, hS2, hs2, gd⟩
      have g27 : h2.get k2.size = some (.cells #[u1, u2, .int .i64 D.2.2.1, .int .i64 D.2.2.2.1, .bool D.2.2.2.2.1, .int .i64 D.2.2.2.2.2] true) := P2.box
      have n27 := P2.lt
      simp (maxDischargeDepth := 16) only [z08, z0d, z0e, z0p, z0q, z0s, z0t, z0v, z0x, z0z, z1e, z1l, z1v, z2x, z3b, z3h, z3x, z3y, z3z, z41, z43, z46, z4e, z4f, z4g, z4h, z4i, z4j, z4k, z4l, z4p, z4q, z4r, z4s, z4u, z4v, z4z, z53, Nat.reduceAdd, Nat.reduceSub, ↓reduceIte, Hp.row, hasBx42, tPartx94, tPartx113, g27, gd, ne_f n27, ne_f0 n27, lt_t n27, lt_t0 n27, ne_f hs2, ne_f0 hs2, lt_t hs2, lt_t0 hs2]
      refine ex_any (Al k _) (models_pair (N := N) P2 wf hro (by omega) hp20) ?_
      rintro _ h4 ⟨y1, y2, p', rfl, hR4, k4, r4, hp4⟩
      have s4 := k4.size
      have P4 := P2.keep k4 r4
      have oy1 : oneC y1 = true := R113.rone hR4 y1 (by simp [mdC])
      have oy2 : oneC y2 = true := R113.rone hR4 y2 (by simp [mdC])
      have g47 : h4.get k2.size = some (.cells #[u1, u2, .int .i64 D.2.2.1, .int .i64 D.2.2.2.1, .bool D.2.2.2.2.1, .int .i64 D.2.2.2.2.2] true) := P4.box
      have n47 := P4.lt
      have kk2 := P.ka
      have r47 : (h4.ro ≤ k2.size) = True := by simp; have := P4.ro; omega
      simp (maxDischargeDepth := 16) only [z08, z0d, z0e, z0h, z0k, z0p, z0q, z0s, z0t, z0u, z0v, z0w, z0z, z10, z13, z1a, z1f, z1w, z1x, z24, z2o, z2t, z2y, z3b, z3p, z3q, z3v, z3w, z44, z45, z46, z49, z4e, z4f, z4g, z4h, z4i, z4m, z4n, z4o, z4p, z4q, z4r, z53, z5f, z72, Nat.reduceAdd, ↓reduceIte, Hp.wr, tSizex113, mdC, g47, ne_f n47, ne_f0 n47, lt_t n47, lt_t0 n47, r47, oy1, oy2, w3]
      exact ih (m - 1) _ _ q1 ⟨i + 1, (deedS D z).1, S2, p', y1, y2, q2, q3, by rw [deedS_len]; exact hDj, P4.swap hR4 (fun c hc => by
        rcases hp4 c hc with (hc | hc) | hc
        · have h1 := P2.apart c hc
          exact ⟨by omega, h1.2⟩
        · exact ⟨by omega, fun hS => by have := P2.new c hS; omega, by omega⟩
        · exact ⟨by omega, fun hS => by have := hS2 c hS; omega, by omega⟩), rfl, rfl, rfl, rfl, rfl, rfl, rfl, rfl, rfl⟩
    · rcases hex with ⟨hlt, rfl⟩ | hlt
      case' inl =>
        have hlt' := lt_cast hlt
        have h40' : (((40 : Nat) : Int) = 40) = True := by simp
        have hii : (0 ≤ ((40 : Nat) : Int)) = True := by simp
        obtain ⟨z, hz⟩ : ∃ z, la[40]? = some z := ⟨_, List.getElem?_eq_getElem hlt⟩
        obtain ⟨b2, off2, _, cells2, ow2, part2, ee, hb2, hg2, -, hp2, hle2, hex2, -⟩ := elem_at (s := 5) ra hz rfl (by decide)
        cases ee
        have hp20 := hp2
        obtain ⟨w1, rfl, e1, e2, e3, e4, e5⟩ := R94_inv hp2
        have ow := (Rp.slice Rp.bool).rone e5 w1 (List.mem_singleton.2 rfl)
        have hgb := (P.keeps.get b2 hb2).trans hg2
        have hbb2 : b2 < h.size := by omega
        have rh0 : (h.ro ≤ h.size) = True := by simp; omega
        simp (maxDischargeDepth := 16) only [z04, z06, z08, z09, z0a, z0b, z0d, z0e, z0g, z0j, z0m, z0p, z0q, z0s, z0t, z0u, z0v, z0w, z0x, z0z, z10, z11, z13, z18, z1e, z1f, z1g, z1l, z1v, z1w, z1x, z1z, z2b, z2d, z2o, z2u, z2x, z2y, z2z, z34, z3a, z3b, z3h, z3p, z3v, z3w, z44, z45, z46, z49, z4c, z4e, z4f, z4g, z4h, z4i, z4j, z4k, z4l, z4p, z4q, z4r, z4s, z4u, z4v, z4z, z50, z51, z53, z5a, z5f, z72, evalC_block, Nat.reduceEqDiff, Nat.reduceAdd, Nat.reduceMul, ↓reduceIte, Hp.row, Hp.wr, hasBx48, tElemx88, tPartx94, tSizex94, tZerox94, hlt', hii, hgb, ne_f hbb2, ne_f0 hbb2, lt_t hbb2, lt_t0 hbb2, hle2, hex2, Int.toNat_natCast, rh0, ow, h40']
      case' inr =>
        have hlt' := nlt_cast hlt
        simp (maxDischargeDepth := 16) only [z06, z08, z09, z0a, z0c, z0d, z0e, z0g, z0j, z0m, z0p, z0q, z0s, z0t, z0v, z0x, z0z, z10, z13, z1l, z2d, z3b, z3h, z4e, z4f, z4g, z4h, z4i, z4j, z4k, z4l, z4s, z4u, z4v, z5b, ↓reduceIte, hasBx48, hlt']
      all_goals
        refine ex_ev (S := fun v h2 => ∃ bc, v = .pointer (some ⟨bc, 0, none⟩) ∧ Pair k h2 b k2.size S p u1 u2 D D ∧ DiskAt (fun c => h.size ≤ c ∧ c < h2.size) h2 bc D ∧ h.size ≤ h2.size) (Al k _) (fun h0 hh0 => ?_) ?_
        case' refine_1 =>
          have kh : Keeps h h0 := by rw [hh0]; exact (by repeat (first | assumption | exact Keeps.refl _ | refine Keeps.push ?_ _ | refine Keeps.set ?_ (by first | omega | (simp only [Hp.size_push, Hp.size_setB]; omega)) _))
          have rh : h0.ro = h.ro := by rw [hh0] <;> simp only [Hp.ro_setB, Hp.ro_push]
          have P0 := P.keep kh rh
          have sh := kh.size
          refine (run_Copy (N := N) jDk (by omega) P0.disk (by omega)).mono ?_
          rintro v h2 ⟨bc, rfl, hk2', hr2', dc⟩
          have := hk2'.size
          exact ⟨bc, rfl, P0.keep hk2' hr2', dc.wide (fun c hc => ⟨by omega, hc.2⟩) (fun c hc => ⟨by omega, hc.2⟩), by omega⟩
        case' refine_2 =>
          rintro _ h2 ⟨bc, rfl, P2, dc, sh2⟩
          have g27 : h2.get k2.size = some (.cells #[u1, u2, .int .i64 D.2.2.1, .int .i64 D.2.2.2.1, .bool D.2.2.2.2.1, .int .i64 D.2.2.2.2.2] true) := P2.box
          have n27 := P2.lt
          simp (maxDischargeDepth := 16) only [z08, z09, z0d, z0e, z0p, z0q, z0r, z0s, z0t, z0v, z0w, z0x, z0z, z10, z11, z13, z1e, z1l, z1v, z2x, z3b, z3h, z3x, z3y, z3z, z41, z43, z46, z4e, z4f, z4g, z4h, z4i, z4j, z4k, z4l, z4m, z4n, z4o, z4p, z4q, z4r, z4s, z4u, z4v, z4z, z52, z53, z5e, z7i, z7m, Nat.reduceAdd, Nat.reduceSub, ↓reduceIte, yielded, Hp.row, hasBx43, tPartx113, tPtrx89, g27, ne_f n27, ne_f0 n27, lt_t n27, lt_t0 n27]
          refine ex_any (Al k _) (Al.ex (run_is (N := N) jDk jLw (by omega) dc P2.md (fun c hc => (P2.apart c hc).1))) ?_
          rintro _ h3 ⟨k3, r3, rfl⟩
          have s3 := k3.size
          have P3 := P2.keep k3 r3
          have hpro3 := P3.ro
          have g37 : h3.get k2.size = some (.cells #[u1, u2, .int .i64 D.2.2.1, .int .i64 D.2.2.2.1, .bool D.2.2.2.2.1, .int .i64 D.2.2.2.2.2] true) := P3.box
          have n37 := P3.lt
          have r30 : (h3.ro ≤ h3.size) = True := by simp; have := P3.keeps.size; omega
          have hsk := P.keeps.size
          simp (maxDischargeDepth := 16) only [z04, z08, z09, z0a, z0c, z0d, z0e, z0p, z0q, z0r, z0s, z0t, z0u, z0v, z0w, z0z, z10, z12, z14, z1e, z1f, z1g, z1p, z1r, z1v, z1w, z1x, z1y, z2h, z2o, z2x, z2y, z2z, z34, z3b, z3p, z3q, z3v, z3w, z3x, z3y, z3z, z41, z43, z44, z45, z46, z49, z4c, z4e, z4f, z4g, z4h, z4i, z4m, z4n, z4o, z4p, z4q, z4r, z4z, z52, z53, z59, z5c, z5e, z5f, z72, evalC_block, Nat.reduceAdd, Nat.reduceSub, ↓reduceIte, yielded, Hp.row, Hp.wr, tLenx88, tPartx113, tSizex113, tZerox113, g37, ne_f n37, ne_f0 n37, lt_t n37, lt_t0 n37, ou1, ou2, r30]
          obtain ⟨ac, hac⟩ : ∃ ac, ac = h3.size := ⟨_, rfl⟩
          have sepa : ¬ S ac ∧ ¬ p ac ∧ ac ≠ k2.size := ⟨fun hS => by have := (P.disk.own _ hS).2; omega, fun hpc => by have := (P.apart _ hpc).1; omega, by omega⟩
          have Px : Pair k ((h3.push (some (.cells #[.slice none 0 0, .slice none 0 0, .int .i64 0, .int .i64 0, .bool false, .int .i64 0] true))).setB h3.size (some (.cells (mdC u1 u2 D).toArray true))) b k2.size S p u1 u2 D D := P3.keep (by repeat (first | assumption | exact Keeps.refl _ | refine Keeps.push ?_ _ | refine Keeps.set ?_ (by first | omega | (simp only [Hp.size_push, Hp.size_setB]; omega)) _)) (by simp only [Hp.ro_setB, Hp.ro_push])
          have Qx : Pair k ((h3.push (some (.cells #[.slice none 0 0, .slice none 0 0, .int .i64 0, .int .i64 0, .bool false, .int .i64 0] true))).setB h3.size (some (.cells (mdC u1 u2 D).toArray true))) bc ac (fun c => h.size ≤ c ∧ c < h2.size) p u1 u2 D D :=
            ⟨(dc.keep k3 r3).keep (by repeat (first | assumption | exact Keeps.refl _ | refine Keeps.push ?_ _ | refine Keeps.set ?_ (by first | omega | (simp only [Hp.size_push, Hp.size_setB]; omega)) _)) (by simp only [Hp.ro_setB, Hp.ro_push]), fun c hc => by have := hc.1; omega, Px.keeps, Px.ro, by omega, by simp only [Hp.size_setB, Hp.size_push]; omega, fun hc => by have := hc.2; omega, by rw [hac, get_set_self], Px.md, fun c hc => by
              have h1 := P.apart c hc
              exact ⟨by simp only [Hp.size_setB, Hp.size_push]; omega, fun hn => by have := hn.1; omega, by omega⟩⟩
          have sepx : ∀ c, h.size ≤ c ∧ c < h2.size → ¬ S c ∧ ¬ p c ∧ c ≠ k2.size := fun c hc => ⟨fun hS => by have := (P.disk.own c hS).2; omega, fun hpc => by have := (P.apart c hpc).1; omega, by omega⟩
          rw [← hac]
          rw [← hac] at Px Qx
          refine loop_rule (Al k _) (fun m x h => ∃ (i : Nat) (E : DV) (S' p' : Nat → Prop) (y1 y2 : Value), m = lb.length - i ∧ i ≤ lb.length ∧ Pair k h b k2.size S p u1 u2 D D ∧ Pair k h bc ac S' p' y1 y2 E E ∧ (∀ c, S' c → ¬ S c ∧ ¬ p c ∧ c ≠ k2.size) ∧
            x.tmps.size = 140 ∧ x.defers = [] ∧ x.tmps.getD 2 undef = .int .i64 (j : Int) ∧ x.tmps.getD 7 undef = .pointer (some ⟨b, 0, none⟩) ∧ x.tmps.getD 9 undef = .pointer (some ⟨k2.size, 0, none⟩) ∧ x.tmps.getD 12 undef = .pointer (some ⟨bc, 0, none⟩) ∧ x.tmps.getD 13 undef = .pointer (some ⟨ac, 0, none⟩) ∧ x.tmps.getD 71 undef = .slice ab lb.length cb ∧ x.tmps.getD 72 undef = .int .i64 (lb.length : Int) ∧ x.tmps.getD 73 undef = .int .i64 (i : Int)) ?_ _ lb.length _ _ ?_ ?_
          · clear ih P hlt hlt' Px Qx sepx P2 P3 dc
            intro m n' x h hI' ih
            obtain ⟨i, E, S', p', y1, y2, hm, hi, P, Q, sep, hxs, hxd, l2, l7, l9, l12, l13, l71, l72, l73⟩ := hI'
            obtain ⟨g, rfl⟩ : ∃ g : Nat → Value, x = { tmps := #[g 0, g 1, .int .i64 (j : Int), g 3, g 4, g 5, g 6, .pointer (some ⟨b, 0, none⟩), g 8, .pointer (some ⟨k2.size, 0, none⟩), g 10, g 11, .pointer (some ⟨bc, 0, none⟩), .pointer (some ⟨ac, 0, none⟩), g 14, g 15, g 16, g 17, g 18, g 19, g 20, g 21, g 22, g 23, g 24, g 25, g 26, g 27, g 28, g 29, g 30, g 31, g 32, g 33, g 34, g 35, g 36, g 37, g 38, g 39, g 40, g 41, g 42, g 43, g 44, g 45, g 46, g 47, g 48, g 49, g 50, g 51, g 52, g 53, g 54, g 55, g 56, g 57, g 58, g 59, g 60, g 61, g 62, g 63, g 64, g 65, g 66, g 67, g 68, g 69, g 70, .slice ab lb.length cb, .int .i64 (lb.length : Int), .int .i64 (i : Int), g 74, g 75, g 76, g 77, g 78, g 79, g 80, g 81, g 82, g 83, g 84, g 85, g 86, g 87, g 88, g 89, g 90, g 91, g 92, g 93, g 94, g 95, g 96, g 97, g 98, g 99, g 100, g 101, g 102, g 103, g 104, g 105, g 106, g 107, g 108, g 109, g 110, g 111, g 112, g 113, g 114, g 115, g 116, g 117, g 118, g 119, g 120, g 121, g 122, g 123, g 124, g 125, g 126, g 127, g 128, g 129, g 130, g 131, g 132, g 133, g 134, g 135, g 136, g 137, g 138, g 139], defers := [] } := ⟨fun k => x.tmps.getD k undef, (act_eta hxs hxd).trans (by simp only [unrollL, Nat.reduceAdd, Nat.zero_add, l2, l7, l9, l12, l13, l71, l72, l73])⟩; clear hxs hxd l2 l7 l9 l12 l13 l71 l72 l73
            have hs := P.keeps.size
            have hpro := P.ro
            have hplt := P.lt
            rcases (show (i < lb.length ∧ i ≠ 40) ∨ ((i < lb.length ∧ i = 40) ∨ ¬ i < lb.length) by omega) with ⟨hlt, h40⟩ | hex
            · have hlt' := lt_cast hlt
              have h40' : ((i : Int) = 40) = False := by simp; omega
              obtain ⟨q1, q2, q3⟩ := dec_meas hlt hm
              have hii : (0 ≤ (i : Int)) = True := by simp
              have w3 := i64_succ (i := i) (by omega)
              obtain ⟨z, hz⟩ : ∃ z, lb[i]? = some z := ⟨_, List.getElem?_eq_getElem hlt⟩
              obtain ⟨b2, off2, _, cells2, ow2, part2, ee, hb2, hg2, -, hp2, hle2, hex2, -⟩ := elem_at (s := 5) rb hz rfl (by decide)
              cases ee
              have hp20 := hp2
              obtain ⟨w1, rfl, e1, e2, e3, e4, e5⟩ := R94_inv hp2
              have ow := (Rp.slice Rp.bool).rone e5 w1 (List.mem_singleton.2 rfl)
              have hgb := (P.keeps.get b2 hb2).trans hg2
              have hbb2 : b2 < h.size := by omega
              have rh0 : (h.ro ≤ h.size) = True := by simp; omega
              simp (maxDischargeDepth := 16) only [z04, z08, z09, z0a, z0b, z0c, z0d, z0e, z0p, z0q, z0s, z0t, z0u, z0v, z0w, z0x, z0z, z10, z11, z13, z18, z1e, z1f, z1g, z1l, z1v, z1w, z1x, z1z, z2b, z2d, z2o, z2u, z2x, z2y, z2z, z33, z34, z3a, z3b, z3h, z3p, z3v, z3w, z3x, z3y, z3z, z41, z43, z44, z45, z46, z49, z4c, z4e, z4f, z4g, z4h, z4i, z4j, z4k, z4l, z4p, z4q, z4r, z4s, z4u, z4v, z4z, z50, z51, z53, z5a, z5b, z5f, z72, evalC_block, Nat.reduceAdd, Nat.reduceSub, ↓reduceIte, Hp.row, Hp.wr, hasBx38, tElemx88, tPartx94, tSizex94, tZerox94, hlt', hii, hgb, ne_f hbb2, ne_f0 hbb2, lt_t hbb2, lt_t0 hbb2, hle2, hex2, Int.toNat_natCast, rh0, ow, h40']
              refine ex_ev (S := fun v h2 => v = .tuple #[.agg (deedS E z).2.1.toArray, .int .i64 (deedS E z).2.2] ∧ flatOk K98 (deedS E z).2.1 ∧ ∃ S2 : Nat → Prop, Pair k h2 bc ac S2 p' y1 y2 (deedS E z).1 E ∧ Pair k h2 b k2.size S p u1 u2 D D ∧ (∀ c, S2 c → (S' c ∨ h.size < c) ∧ c < h2.size) ∧ h.size < h2.size ∧ h2.get h.size = some (.cells #[.int .i64 z.1, .int .i64 z.2.1, .int .i64 z.2.2.1, .int .u8 z.2.2.2.1, w1] true)) (Al k _) (fun h1 hh1 => ?_) ?_
              · have s1' : h1.size = h.size + 1 := by rw [hh1]; simp only [Hp.size_setB, Hp.size_push]
                have r1' : h1.ro = h.ro := by rw [hh1]; simp only [Hp.ro_setB, Hp.ro_push]
                have k1' : Keeps h h1 := by rw [hh1]; exact (by repeat (first | assumption | exact Keeps.refl _ | refine Keeps.push ?_ _ | refine Keeps.set ?_ (by first | omega | (simp only [Hp.size_push, Hp.size_setB]; omega)) _))
                have g1' : h1.get h.size = some (.cells #[.int .i64 z.1, .int .i64 z.2.1, .int .i64 z.2.2.1, .int .u8 z.2.2.2.1, w1] true) := by rw [hh1, get_set_self]
                refine (does_pair (N := N) (Q.keep k1' r1') (by omega) hp20).mono ?_
                rintro v h2 ⟨rfl, hf, Q2, c2⟩
                refine ⟨rfl, hf, _, Q2, (P.keep k1' r1').frame c2.1 c2.2.1 Q2.keeps (fun c hc hc2 => c2.2.2 c hc (fun hS => ?_)), fun c hc => ⟨?_, (Q2.disk.own c hc).2⟩, by have := c2.1; omega, (c2.2.2 _ (by omega) (fun hS => by have := (Q.disk.own _ hS).2; omega)).trans g1'⟩
                · have h1 := sep c hS
                  rcases hc2 with hc2 | hc2 | hc2
                  · exact h1.1 hc2
                  · exact h1.2.1 hc2
                  · exact h1.2.2 hc2
                · rcases hc with hc | hc
                  · exact .inl hc
                  · exact .inr (by omega)
              rintro _ h2 ⟨rfl, hf, S2, Q2, P2, hS2, hs2, gd⟩
              have l2 : (deedS E z).2.1.length = 64 := hf.len
              have l2' : 64 ≤ (deedS E z).2.1.length := by omega
              have t2 : (deedS E z).2.1.take 64 = (deedS E z).2.1 := List.take_of_length_le (by omega)
              have g27 : h2.get ac = some (.cells #[y1, y2, .int .i64 E.2.2.1, .int .i64 E.2.2.2.1, .bool E.2.2.2.2.1, .int .i64 E.2.2.2.2.2] true) := Q2.box
              have oy1 : oneC y1 = true := R113.rone Q.md y1 (by simp [mdC])
              have oy2 : oneC y2 = true := R113.rone Q.md y2 (by simp [mdC])
              have n27 := Q2.lt
              have hr2' := Q2.ro
              have hsz2 := Q2.keeps.size
              have r2 : (h2.ro ≤ h2.size) = True := by simp; omega
              simp (maxDischargeDepth := 16) only [z08, z09, z0d, z0e, z0p, z0q, z0s, z0t, z0u, z0v, z0x, z0z, z10, z11, z1a, z1e, z1f, z1g, z1l, z1v, z1w, z1x, z2o, z2t, z2x, z2y, z2z, z34, z35, z3b, z3h, z3x, z3y, z3z, z41, z43, z46, z49, z4c, z4e, z4f, z4g, z4h, z4i, z4j, z4k, z4l, z4m, z4n, z4o, z4p, z4q, z4r, z4s, z4u, z4v, z4z, z53, z72, Nat.reduceAdd, Nat.reduceSub, ↓reduceIte, Hp.row, Hp.wr, hasBx42, tPartx94, tPartx113, tSizex98, tZerox98, l2, r2, flat_all1 hf, sp64, g27, gd, ne_f n27, ne_f0 n27, lt_t n27, lt_t0 n27, ne_f hs2, ne_f0 hs2, lt_t hs2, lt_t0 hs2]
              refine ex_ev (S := fun v h4 => ∃ (v1 v2 : Value) (p2 : Nat → Prop), v = .tuple #[.agg (mdC v1 v2 (deedS E z).1).toArray, .agg (deedS E z).2.1.toArray, .int .i64 (deedS E z).2.2] ∧ R113.r false p2 h4 (mdC v1 v2 (deedS E z).1) (deedS E z).1 ∧ Keeps h2 h4 ∧ h4.ro = h2.ro ∧ (∀ c, p2 c → (p' c ∨ c < k.size) ∨ h2.size < c ∧ c < h4.size) ∧ h4.get h2.size = some (.cells (deedS E z).2.1.toArray true) ∧ h2.size < h4.size) (Al k _) (fun h3 hh3 => ?_) ?_
              · have s3 : h3.size = h2.size + 1 := by rw [hh3]; simp only [Hp.size_setB, Hp.size_push]
                have r3 : h3.ro = h2.ro := by rw [hh3]; simp only [Hp.ro_setB, Hp.ro_push]
                have k3 : Keeps h2 h3 := by rw [hh3]; exact (by repeat (first | assumption | exact Keeps.refl _ | refine Keeps.push ?_ _ | refine Keeps.set ?_ (by first | omega | (simp only [Hp.size_push, Hp.size_setB]; omega)) _))
                have g3 : h3.get h2.size = some (.cells (deedS E z).2.1.toArray true) := by rw [hh3, get_set_self]
                refine (models_pair (N := N) (Q2.keep k3 r3) Q.disk.wf hro (by omega) hp20).mono ?_
                rintro v h4 ⟨v1, v2, p2, rfl, hR, k4, r4, hp4⟩
                have s4 := k4.size
                exact ⟨v1, v2, p2, rfl, hR, k3.trans k4, by omega, fun c hc => by
                  rcases hp4 c hc with hc | hc
                  · exact .inl hc
                  · exact .inr ⟨by omega, hc.2⟩, (k4.get _ (by omega)).trans g3, by omega⟩
              rintro _ h4 ⟨v1, v2, p2, rfl, hR4, k4, r4, hp4, g4, s4⟩
              have ov1 : oneC v1 = true := R113.rone hR4 v1 (by simp [mdC])
              have ov2 : oneC v2 = true := R113.rone hR4 v2 (by simp [mdC])
              have r40 : ∀ j, (h4.ro ≤ h4.size + j) = True := fun j => by simp; omega
              have r400 : (h4.ro ≤ h4.size) = True := by simp; omega
              have nb := neB hf
              have p4 : ∀ c, p2 c → c < h4.size ∧ ¬ S2 c ∧ c ≠ ac := fun c hc => by
                have hka := Q.ka
                rcases hp4 c hc with (hc | hc) | hc
                · have h1 := Q2.apart c hc
                  exact ⟨by omega, h1.2⟩
                · exact ⟨by omega, fun hS => by have := Q2.new c hS; omega, by omega⟩
                · exact ⟨by omega, fun hS => by have := (hS2 c hS).2; omega, by omega⟩
              simp (maxDischargeDepth := 16) only [z08, z09, z0d, z0e, z0p, z0q, z0r, z0s, z0t, z0u, z0v, z0w, z0x, z0z, z10, z11, z12, z13, z1a, z1e, z1f, z1g, z1l, z1v, z1w, z1x, z1y, z2c, z2o, z2t, z2x, z2y, z2z, z33, z34, z35, z37, z38, z39, z3b, z3h, z3p, z3q, z3v, z3w, z3x, z3y, z3z, z41, z43, z44, z45, z46, z49, z4a, z4c, z4d, z4e, z4f, z4g, z4h, z4i, z4j, z4k, z4l, z4m, z4n, z4o, z4p, z4q, z4r, z4s, z4u, z4v, z4z, z52, z53, z59, z5a, z5c, z5e, z5f, z72, Nat.reduceAdd, Nat.reduceSub, ↓reduceIte, yielded, Hp.row, Hp.wr, hasBx43, tPartx98, tPartx113, tSizex98, tSizex113, tZerox98, tZerox113, mdC, l2, t2, r40, r400, flat_all1 hf, sp64, g4, ne_f s4, ne_f0 s4, lt_t s4, lt_t0 s4, ov1, ov2, nb]
              refine ex_ev (S := fun v h6 => v = .bool true ∧ Keeps h4 h6 ∧ h6.ro = h4.ro ∧ h6.get h4.size = some (.cells #[v1, v2, .int .i64 (deedS E z).1.2.2.1, .int .i64 (deedS E z).1.2.2.2.1, .bool (deedS E z).1.2.2.2.2.1, .int .i64 (deedS E z).1.2.2.2.2.2] true) ∧ h4.size < h6.size) (Al k _) (fun h5 hh5 => ?_) ?_
              · have s5 : h5.size = h4.size + 2 := by rw [hh5]; simp only [Hp.size_setB, Hp.size_push]
                have r5 : h5.ro = h4.ro := by rw [hh5]; simp only [Hp.ro_setB, Hp.ro_push]
                have k5 : Keeps h4 h5 := by rw [hh5]; exact (by repeat (first | assumption | exact Keeps.refl _ | refine Keeps.push ?_ _ | refine Keeps.set ?_ (by first | omega | (simp only [Hp.size_push, Hp.size_setB]; omega)) _))
                have g5 : h5.get h4.size = some (.cells #[v1, v2, .int .i64 (deedS E z).1.2.2.1, .int .i64 (deedS E z).1.2.2.2.1, .bool (deedS E z).1.2.2.2.2.1, .int .i64 (deedS E z).1.2.2.2.2.2] true) := by rw [hh5, get_set_ne (by omega), get_set_self]
                refine (Al.ex (run_is (N := N) jDk jLw (by omega) (Q2.disk.keep (k4.trans k5) (by omega)) (R113.mono hR4 (fun _ h => h) id (k5.fr fun c hc => (p4 c hc).1)) (fun c hc => by have := (p4 c hc).1; omega))).mono ?_
                rintro v h6 ⟨hk6, hr6, rfl⟩
                have := hk6.size
                exact ⟨rfl, k5.trans hk6, by omega, (hk6.get _ (by omega)).trans g5, by omega⟩
              rintro _ h6 ⟨rfl, k6, r6, g6, s6⟩
              have P6 := P2.keep (k4.trans k6) (by omega)
              have g69 : h6.get k2.size = some (.cells #[u1, u2, .int .i64 D.2.2.1, .int .i64 D.2.2.2.1, .bool D.2.2.2.2.1, .int .i64 D.2.2.2.2.2] true) := P6.box
              have n69 := P6.lt
              simp (maxDischargeDepth := 16) only [z0q, z0r, z0s, z0t, z0v, z0w, z0x, z0z, z10, z12, z14, z1e, z1l, z1v, z1y, z2h, z2x, z3b, z3h, z3x, z3y, z3z, z41, z43, z46, z4e, z4f, z4g, z4h, z4i, z4j, z4k, z4l, z4m, z4n, z4o, z4p, z4q, z4r, z4s, z4u, z4v, z4z, z52, z53, z59, z5c, z5e, Nat.reduceAdd, Nat.reduceSub, ↓reduceIte, yielded, Hp.row, hasBx43, tPartx113, g69, ne_f n69, ne_f0 n69, lt_t n69, lt_t0 n69]
              refine ex_any (Al k _) (Al.ex (is_pair (N := N) P6 (by omega))) ?_
              rintro _ h7 ⟨k7, r7, rfl⟩
              have s7 := k7.size
              have s46 := k6.size
              have P7 := P6.keep k7 r7
              have Q7 := Q2.keep ((k4.trans k6).trans k7) (by omega)
              have g7n := (k7.get _ s6).trans g6
              have g7a : h7.get ac = some (.cells #[y1, y2, .int .i64 E.2.2.1, .int .i64 E.2.2.2.1, .bool E.2.2.2.2.1, .int .i64 E.2.2.2.2.2] true) := Q7.box
              have n7a := Q7.lt
              have n7n : h4.size < h7.size := by omega
              have r7a : (h7.ro ≤ ac) = True := by simp; have := Q7.ro; have := Q7.ka; omega
              simp (maxDischargeDepth := 16) only [z04, z08, z0a, z0c, z0d, z0e, z0h, z0k, z0p, z0q, z0r, z0s, z0t, z0u, z0v, z0w, z0z, z10, z12, z13, z14, z1e, z1f, z1v, z1w, z1x, z1y, z24, z2h, z2o, z2x, z2y, z3b, z3p, z3q, z3v, z3w, z3x, z3y, z3z, z41, z43, z44, z45, z46, z49, z4e, z4f, z4g, z4h, z4i, z4m, z4n, z4o, z4p, z4q, z4r, z4z, z52, z53, z59, z5c, z5e, z5f, z72, Nat.reduceAdd, Nat.reduceSub, ↓reduceIte, yielded, Hp.row, Hp.wr, tPartx113, tSizex113, g7n, g7a, ne_f n7a, ne_f0 n7a, lt_t n7a, lt_t0 n7a, ne_f n7n, ne_f0 n7n, lt_t n7n, lt_t0 n7n, r7a, ov1, ov2, w3]
              have Q8 := Q7.swap (R113.mono hR4 (fun _ h => h) id ((k6.trans k7).fr fun c hc => (p4 c hc).1)) (fun c hc => ⟨by have := (p4 c hc).1; omega, (p4 c hc).2⟩)
              exact ih (m - 1) _ _ q1 ⟨i + 1, (deedS E z).1, S2, p2, v1, v2, q2, q3, P7.frame (by simp only [Hp.size_setB]; exact Nat.le_refl _) rfl Q8.keeps (fun c hc hc2 => get_set_ne (by
                rintro rfl
                rcases hc2 with hc2 | hc2 | hc2
                · exact sepa.1 hc2
                · exact sepa.2.1 hc2
                · exact sepa.2.2 hc2)), Q8, fun c hc => by
                rcases (hS2 c hc).1 with h1 | h1
                · exact sep c h1
                · exact ⟨fun hS => by have := (P.disk.own c hS).2; omega, fun hpc => by have := (P.apart c hpc).1; omega, by have := P.lt; omega⟩, rfl, rfl, rfl, rfl, rfl, rfl, rfl, rfl, rfl, rfl⟩
            · rcases hex with ⟨hlt, rfl⟩ | hlt
              case' inl =>
                have hlt' := lt_cast hlt
                have h40' : (((40 : Nat) : Int) = 40) = True := by simp
                have hii : (0 ≤ ((40 : Nat) : Int)) = True := by simp
                obtain ⟨z, hz⟩ : ∃ z, lb[40]? = some z := ⟨_, List.getElem?_eq_getElem hlt⟩
                obtain ⟨b2, off2, _, cells2, ow2, part2, ee, hb2, hg2, -, hp2, hle2, hex2, -⟩ := elem_at (s := 5) rb hz rfl (by decide)
                cases ee
                have hp20 := hp2
                obtain ⟨w1, rfl, e1, e2, e3, e4, e5⟩ := R94_inv hp2
                have ow := (Rp.slice Rp.bool).rone e5 w1 (List.mem_singleton.2 rfl)
                have hgb := (P.keeps.get b2 hb2).trans hg2
                have hbb2 : b2 < h.size := by omega
                have rh0 : (h.ro ≤ h.size) = True := by simp; omega
                simp (maxDischargeDepth := 16) only [z04, z06, z08, z09, z0a, z0b, z0d, z0e, z0g, z0j, z0m, z0p, z0q, z0s, z0t, z0u, z0v, z0w, z0x, z0z, z10, z11, z13, z18, z1e, z1f, z1g, z1l, z1v, z1w, z1x, z1z, z2b, z2d, z2o, z2u, z2x, z2y, z2z, z34, z3a, z3b, z3h, z3p, z3v, z3w, z44, z45, z46, z49, z4c, z4e, z4f, z4g, z4h, z4i, z4j, z4k, z4l, z4p, z4q, z4r, z4s, z4u, z4v, z4z, z50, z51, z53, z5a, z5f, z72, evalC_block, Nat.reduceEqDiff, Nat.reduceAdd, Nat.reduceMul, ↓reduceIte, Hp.row, Hp.wr, hasBx44, tElemx88, tPartx94, tSizex94, tZerox94, hlt', hii, hgb, ne_f hbb2, ne_f0 hbb2, lt_t hbb2, lt_t0 hbb2, hle2, hex2, Int.toNat_natCast, rh0, ow, h40']
              case' inr =>
                have hlt' := nlt_cast hlt
                simp (maxDischargeDepth := 16) only [z06, z08, z09, z0a, z0c, z0d, z0e, z0g, z0j, z0m, z0p, z0q, z0s, z0t, z0v, z0w, z0x, z0z, z10, z13, z1l, z2d, z3b, z3h, z4e, z4f, z4g, z4h, z4i, z4j, z4k, z4l, z4s, z4u, z4v, z5b, ↓reduceIte, hasBx44, hlt']
              all_goals
                refine ex_ev (S := fun v h2 => v = .int .i64 0 ∧ ∃ S3, Pair k h2 b k2.size S3 p u1 u2 (crashS D []) D) (Al k _) (fun h0 hh0 => ?_) ?_
                case' refine_1 =>
                  have kh : Keeps h h0 := by rw [hh0]; exact (by repeat (first | assumption | exact Keeps.refl _ | refine Keeps.push ?_ _ | refine Keeps.set ?_ (by first | omega | (simp only [Hp.size_push, Hp.size_setB]; omega)) _))
                  have rh : h0.ro = h.ro := by rw [hh0] <;> simp only [Hp.ro_setB, Hp.ro_push]
                  have P0 := P.keep kh rh
                  refine (run_Crash (N := N) (p := nop) (ks := []) jDk (by omega) P0.disk (ownFr OwnC.nil (fun c h => by cases h)) (fun c hc => hc.elim)).mono ?_
                  rintro v h2 ⟨rfl, st⟩
                  exact ⟨rfl, _, P0.step (Keeps.refl _) rfl st⟩
                case' refine_2 =>
                  rintro _ h2 ⟨rfl, S3, P3⟩
                  obtain ⟨x1, x2, ex, hx1, hx2, -⟩ := R113_inv P3.md
                  simp only [mdC, List.cons.injEq, and_true] at ex
                  obtain ⟨rfl, rfl⟩ := ex
                  obtain ⟨ax, cx, rfl, -, -⟩ := slice_form hx1
                  have ecr : crashS D [] = (D.1, [], -1, -1, false, D.2.2.2.2.2) := Prod.ext crash_nil rfl
                  rw [ecr] at P3
                  simp (maxDischargeDepth := 16) only [z04, z08, z09, z0a, z0c, z0d, z0e, z0p, z0q, z0s, z0t, z0v, z0w, z0z, z10, z13, z2c, z3b, z4e, z4f, z4g, z4h, z4i, z5a, z5c, evalC_block]
                  refine loop_rule (Al k _) (fun m x h => ∃ (i : Nat) (o : Int) (S : Nat → Prop), m = j - i ∧ i ≤ j ∧ Pair k h b k2.size S p (.slice ax D.1.length cx) u2 (D.1, [], -1, -1, false, o) D ∧
                    x.tmps.size = 140 ∧ x.defers = [] ∧ x.tmps.getD 7 undef = .pointer (some ⟨b, 0, none⟩) ∧ x.tmps.getD 9 undef = .pointer (some ⟨k2.size, 0, none⟩) ∧ x.tmps.getD 118 undef = .int .i64 (j : Int) ∧ x.tmps.getD 119 undef = .int .i64 (i : Int)) ?_ _ j _ _ ?_ ?_
                  · clear ih P hlt hlt' ou1
                    intro m n' x h hI' ih
                    obtain ⟨i, o, S, hm, hi, P, hxs, hxd, l7, l9, l118, l119⟩ := hI'
                    obtain ⟨g, rfl⟩ : ∃ g : Nat → Value, x = { tmps := #[g 0, g 1, g 2, g 3, g 4, g 5, g 6, .pointer (some ⟨b, 0, none⟩), g 8, .pointer (some ⟨k2.size, 0, none⟩), g 10, g 11, g 12, g 13, g 14, g 15, g 16, g 17, g 18, g 19, g 20, g 21, g 22, g 23, g 24, g 25, g 26, g 27, g 28, g 29, g 30, g 31, g 32, g 33, g 34, g 35, g 36, g 37, g 38, g 39, g 40, g 41, g 42, g 43, g 44, g 45, g 46, g 47, g 48, g 49, g 50, g 51, g 52, g 53, g 54, g 55, g 56, g 57, g 58, g 59, g 60, g 61, g 62, g 63, g 64, g 65, g 66, g 67, g 68, g 69, g 70, g 71, g 72, g 73, g 74, g 75, g 76, g 77, g 78, g 79, g 80, g 81, g 82, g 83, g 84, g 85, g 86, g 87, g 88, g 89, g 90, g 91, g 92, g 93, g 94, g 95, g 96, g 97, g 98, g 99, g 100, g 101, g 102, g 103, g 104, g 105, g 106, g 107, g 108, g 109, g 110, g 111, g 112, g 113, g 114, g 115, g 116, g 117, .int .i64 (j : Int), .int .i64 (i : Int), g 120, g 121, g 122, g 123, g 124, g 125, g 126, g 127, g 128, g 129, g 130, g 131, g 132, g 133, g 134, g 135, g 136, g 137, g 138, g 139], defers := [] } := ⟨fun k => x.tmps.getD k undef, (act_eta hxs hxd).trans (by simp only [unrollL, Nat.reduceAdd, Nat.zero_add, l7, l9, l118, l119])⟩; clear hxs hxd l7 l9 l118 l119
                    have hs := P.keeps.size
                    have hpro := P.ro
                    have hplt := P.lt
                    by_cases hlt : i < j
                    · have hlt' := lt_cast hlt
                      obtain ⟨q1, q2, q3⟩ := dec_meas hlt hm
                      have w3 := i64_succ (i := i) (by omega)
                      have hiD : i < D.1.length := by omega
                      obtain ⟨y, hy⟩ : ∃ y, D.1[i]? = some y := ⟨_, List.getElem?_eq_getElem hiD⟩
                      obtain ⟨o', er⟩ := read_plain (P := D.1) (a := -1) (o := o) (i := i) hiD
                      rw [hy, Option.getD_some] at er
                      simp (maxDischargeDepth := 16) only [z04, z08, z09, z0a, z0b, z0d, z0e, z0p, z0q, z0s, z0t, z0v, z0x, z0z, z10, z11, z13, z1l, z2d, z3b, z3h, z4e, z4f, z4g, z4h, z4i, z4j, z4k, z4l, z4s, z4u, z4v, z5a, evalC_block, ↓reduceIte, hasBx46, hlt']
                      refine ex_any (Al k _) (run_Read (N := N) (i := (i : Int)) jDk.Read jDk.act jDk.power jDk.burns jDk.Read1 jDk.held jDk.IndexFunc jDk.held1 (by omega) P.disk) ?_
                      rw [er]
                      rintro _ h3 ⟨rfl, d3, c3, hf3⟩
                      have P3 := P.step (Keeps.refl _) rfl (Step.of d3 c3 (by omega))
                      have s3 := c3.1
                      have hpro3 := P3.ro
                      have rh3 : (h3.ro ≤ h3.size) = True := by simp; omega
                      have l3 : y.length = 64 := hf3.len
                      have l3' : 64 ≤ y.length := by omega
                      have t3 : y.take 64 = y := List.take_of_length_le (by omega)
                      simp (maxDischargeDepth := 16) only [z09, z0d, z0e, z0p, z0q, z0s, z0t, z0u, z0v, z0z, z10, z11, z1a, z1f, z1g, z1w, z1x, z2o, z2t, z2y, z2z, z34, z3b, z46, z49, z4c, z4e, z4f, z4g, z4h, z4i, z4m, z4n, z4o, z4p, z4q, z4r, z4z, z53, z72, z7t, Nat.reduceAdd, ↓reduceIte, Hp.wr, tSizex98, tZerox98, rh3, l3, flat_all1 hf3, sp64]
                      refine evalDraw_heap (Al k _) fun h4 hh4 => ?_
                      have s4 : h4.size = h3.size + 1 := by rw [hh4]; simp only [Hp.size_setB, Hp.size_push]
                      have r4 : h4.ro = h3.ro := by rw [hh4]; simp only [Hp.ro_setB, Hp.ro_push]
                      have k4 : Keeps h3 h4 := by rw [hh4]; exact (by repeat (first | assumption | exact Keeps.refl _ | refine Keeps.push ?_ _ | refine Keeps.set ?_ (by first | omega | (simp only [Hp.size_push, Hp.size_setB]; omega)) _))
                      have g4 : h4.get h3.size = some (.cells y.toArray true) := by rw [hh4, get_set_self]
                      have P4 := P3.keep k4 r4
                      clear hh4
                      have a4 := P4.lt
                      have n4 : h3.size < h4.size := by omega
                      obtain ⟨x1, x2, ex, hy1, -, -⟩ := R113_inv P4.md
                      simp only [mdC, List.cons.injEq, and_true] at ex
                      obtain ⟨rfl, rfl⟩ := ex
                      obtain ⟨b5, off5, _, cells5, ow5, part5, ee5, hb5, hg5, -, hp5, hle5, hex5, -⟩ := elem_at (s := 64) hy1 hy rfl (by decide)
                      simp only [Value.slice.injEq] at ee5
                      obtain ⟨rfl, -, rfl⟩ := ee5
                      obtain ⟨rfl, -⟩ := hp5
                      have n5 : b5 < h4.size := (P4.apart b5 hb5).1
                      have g7 : h4.get k2.size = some (.cells #[.slice (some ⟨b5, off5, none⟩) D.1.length cx, u2, .int .i64 D.2.2.1, .int .i64 D.2.2.2.1, .bool D.2.2.2.2.1, .int .i64 D.2.2.2.2.2] true) := P4.box
                      have vk1 : ∀ kept bits, vokB (allow h4.size kept bits) (.slice (some ⟨b5, off5, none⟩) D.1.length cx) = true := fun kept bits => vb_old (vin_slice.2 n5)
                      have vaf := fun p => all_flat (p := p) hf3
                      have al5 : ∀ kept bits, allow h4.size kept bits b5 = true := fun kept bits => allow_old n5
                      have hii : (0 ≤ (i : Int)) = True := by simp
                      have hiL : ((i : Int) < (D.1.length : Int)) = True := by simp; omega
                      have nb := neB hf3
                      rw [evalDraw_modes _ _ [(0, 0, 1), (0, 1, 3), (0, 3, 7), (2, 7, 15), (0, 7, 23), (2, 23, 55), (0, 7, 71), (0, 119, 247), (2, 247, 503), (0, 511, 1023), (0, 1023, 2047)] (by kernel_rfl)]
                      simp (maxDischargeDepth := 16) only [z04, z08, z0a, z0c, z0d, z0e, z0h, z0k, z0p, z0q, z0s, z0t, z0v, z0w, z0z, z10, z12, z13, z16, z18, z1e, z1v, z1y, z1z, z24, z2c, z2u, z2w, z2x, z3a, z3b, z3x, z3y, z3z, z46, z4e, z4f, z4g, z4h, z4i, z4m, z4n, z4o, z4p, z4z, z50, z51, z52, z53, z54, z59, z5a, z5c, z5e, z5j, z5l, z5t, z5u, z5y, z61, z62, z63, z6a, z6d, z6g, z6h, z6p, z6t, z6v, z6x, z70, z71, Nat.reduceAdd, Nat.reduceSub, ↓reduceIte, yielded, keepR, Hp.cell, Hp.row, tElemx110, tFieldAx113x0, tPartx98, tPartx110, g4, g7, hg5, ne_f n4, ne_f0 n4, lt_t n4, lt_t0 n4, ne_f a4, ne_f0 a4, lt_t a4, lt_t0 a4, ne_f n5, ne_f0 n5, lt_t n5, lt_t0 n5, vk1, vaf, al5, l3', t3, hii, hiL, hle5, hex5, Int.toNat_natCast, nb, w3]
                      exact ih (m - 1) _ _ q1 ⟨i + 1, o', _, q2, q3, P4, rfl, rfl, rfl, rfl, rfl, rfl⟩
                    · have hlt' := nlt_cast hlt
                      simp (maxDischargeDepth := 16) only [z05, z06, z08, z09, z0a, z0c, z0d, z0e, z0g, z0j, z0m, z0o, z0p, z0q, z0s, z0t, z0v, z0w, z0z, z11, z13, z2d, z3b, z3c, z3f, z4e, z4f, z4g, z4h, z4i, z4z, z5b, ↓reduceIte, hlt']
                      exact Al.done P.keeps P.ro rfl
                  · omega
                  · exact ⟨0, _, _, by omega, by omega, P3, rfl, rfl, rfl, rfl, rfl, rfl⟩
          · omega
          · exact ⟨0, D, _, p, u1, u2, by omega, by omega, Px, Qx, sepx, rfl, rfl, rfl, rfl, rfl, rfl, rfl, rfl, rfl, rfl⟩
  · omega
  · refine ⟨0, newS j, _, fresh k1 k2, u1, u2, by omega, by omega, by simp [newS], ⟨d1.keep (hk2.trans (by repeat (first | assumption | exact Keeps.refl _ | refine Keeps.push ?_ _ | refine Keeps.set ?_ (by first | omega | (simp only [Hp.size_push, Hp.size_setB]; omega)) _))) (by simp only [Hp.ro_setB, Hp.ro_push]; exact hr2), fun c hc => by have := hc.1; omega, ?_, by simp only [Hp.ro_setB, Hp.ro_push]; omega, by omega, by simp only [Hp.size_setB, Hp.size_push]; omega, fun h => by have := h.2; omega, get_set_self, ?_, fun c hc => ⟨by have := hc.2; simp only [Hp.size_setB, Hp.size_push]; omega, fun h => by have := hc.1; have := h.2; omega, by have := hc.2; omega⟩⟩, rfl, rfl, rfl, rfl, rfl, rfl, rfl, rfl, rfl⟩
    · exact ((hk0.trans hk1).trans hk2).trans (by repeat (first | assumption | exact Keeps.refl _ | refine Keeps.push ?_ _ | refine Keeps.set ?_ (by first | omega | (simp only [Hp.size_push, Hp.size_setB]; omega)) _))
    · exact R113.mono rm (fun _ h => h) id (Keeps.fr (h := k2) (by repeat (first | assumption | exact Keeps.refl _ | refine Keeps.push ?_ _ | refine Keeps.set ?_ (by first | omega | (simp only [Hp.size_push, Hp.size_setB]; omega)) _)) fun c hc => hc.2)
end
end Go.Abs.B1
