/- What fails changes nothing. -/
import Derived.Test.YtnlhfcipapbfmaaDoorDe37
namespace Go.Abs.B1d
open Go.Proofs
set_option maxRecDepth 10000
set_option maxHeartbeats 8000000
set_option linter.all false
theorem mod_eq (n : Int) {q : Nat} (h0 : 0 < q) (h1 : q < 100) : ∃ j : Nat, j < q ∧ IntKind.i64.wrap ((IntKind.u64.wrap n).tmod (q : Int)) = (j : Int) := by
  have h : 0 ≤ IntKind.u64.wrap n := by
    show 0 ≤ n % _
    exact Int.emod_nonneg _ (by decide)
  have h1' : 0 ≤ (IntKind.u64.wrap n).tmod (q : Int) := Int.tmod_nonneg _ h
  have h2 : (IntKind.u64.wrap n).tmod (q : Int) < q := Int.tmod_lt_of_pos _ (by omega)
  obtain ⟨s, hs⟩ : ∃ s : Nat, (IntKind.u64.wrap n).tmod (q : Int) = (s : Int) := ⟨_, (Int.toNat_of_nonneg h1').symm⟩
  rw [hs, wrap_small s (by omega)]
  exact ⟨s, by omega, rfl⟩
theorem kind7 (x : T42) : ∃ j : Nat, j < 7 ∧ IntKind.i64.wrap ((kindN x).tmod 7) = (j : Int) := by
  have h : 0 ≤ IntKind.u64.wrap x.1 := by
    show 0 ≤ x.1 % _
    exact Int.emod_nonneg _ (by decide)
  have h0 : 0 ≤ kindN x := Int.tmod_nonneg _ h
  have h1 : 0 ≤ (kindN x).tmod 7 := Int.tmod_nonneg _ h0
  have h2 : (kindN x).tmod 7 < 7 := Int.tmod_lt_of_pos _ (by decide)
  obtain ⟨s, hs⟩ : ∃ s : Nat, (kindN x).tmod 7 = (s : Int) := ⟨_, (Int.toNat_of_nonneg h1).symm⟩
  rw [hs, wrap_small s (by omega)]
  exact ⟨s, by omega, rfl⟩
theorem kindN_small {j : Nat} (hj : j < 7) (y : Int × Int × Int × List Bool) : kindN ((j : Int), y) = (j : Int) := by
  have : ∀ j : Nat, j < 7 → (IntKind.u64.wrap (j : Int)).tmod 10 = (j : Int) := by decide
  exact this j hj
theorem small_ok (j : Nat) (h : j < 100) : IntKind.i64.min ≤ (j : Int) ∧ (j : Int) ≤ IntKind.i64.max := by rw [i64_minmax.1, i64_minmax.2]; omega
def flw (D : DV) : DV := (D.1, D.2.1, D.2.2.1, 0, D.2.2.2.2)
theorem flawed_deed {D : DV} (h : Lv D (-1)) {z : T42} {j : Nat} (hz : kindN z = (j : Int)) (hj : j < 7) (hs : 0 ≤ z.2.1 ∧ z.2.1 < 14) : deedS (flw D) z = (D, zeroB, 8) := by
  have ha : ∀ i w, 0 ≤ i ∧ i < 14 → actS (flw D) i w = (D, 8) := fun i w hi => flawed h i hi w
  have hr : readS (flw D) z.2.1 = (D, zeroB, 8) := by unfold readS; rw [ha _ _ hs]; rfl
  have hy : syncS (flw D) = (D, 8) := by unfold syncS; rw [ha _ _ ⟨by decide, by decide⟩]; rfl
  have hw : ∀ y, writeS (flw D) z.2.1 y = (D, 8) := fun y => by unfold writeS; rw [ha _ _ hs]; rfl
  unfold deedS
  rw [hz, hr, hy, hw]
  by_cases h5 : (j : Int) = 5
  · rw [if_pos h5]
  · rw [if_neg h5]
    by_cases h6 : (j : Int) = 6
    · rw [if_pos h6]
    · rw [if_neg h6, if_neg (by omega), if_neg (by omega), if_neg (by omega)]
theorem neO {x : List Value} (h : flatOk (KB 896) x) : aBin Tryd.prog .neq 30 (.agg x.toArray) (.agg x.toArray) = some (.bool false) :=
  (bin_eql_agg (P := Tryd.prog) (t := 30) (k := KB 896) (b := true) (by kernel_rfl) (by kernel_rfl) (by kernel_rfl) (cellsEq_self h (fun s hs => List.eq_of_mem_replicate hs))).2
theorem one_row {D : DV} {i : Nat} {x : List Value} (h : Lv D (-1)) (hr : D.2.1 = []) (hi : i < 14) : (writeS D i x).1.2.1.length = 1 := by
  unfold writeS
  rw [h.act (by decide) hi true]
  simp only [if_true, putS, hr, idxF]
  rfl
section
variable {k : Hp}
/-- The disk under play: made behind k. -/
structure One (k h : Hp) (b : Nat) (S : Nat → Prop) (D : DV) : Prop where
  disk : DiskAt S h b D
  new : ∀ c, S c → k.size < c
  keeps : Keeps k h
  ro : h.ro = k.ro
  big : k.size < h.size
theorem One.step {h h1 h2 : Hp} {b : Nat} {S : Nat → Prop} {D E : DV} (P : One k h b S D) (hk : Keeps h h1) (hr : h1.ro = h.ro) (st : Step S h1 h2 b E) : One k h2 b (grow S h1 h2) E := by
  obtain ⟨f1, f2⟩ := st.fresh (fun c hc => Nat.le_of_lt (P.new c hc)) (P.keeps.trans hk)
  have hb := P.big
  have s1 := hk.size
  have s2 := st.2.1
  exact ⟨st.1, fun c hc => by
    rcases hc with hc | hc
    · exact P.new c hc
    · omega, f2, by have := st.2.2.1; have := P.ro; omega, by omega⟩
theorem One.keep {h h1 : Hp} {b : Nat} {S : Nat → Prop} {D : DV} (P : One k h b S D) (hk : Keeps h h1) (hr : h1.ro = h.ro) : One k h1 b S D :=
  ⟨P.disk.keep hk hr, P.new, P.keeps.trans hk, hr.trans P.ro, by have := P.big; have := hk.size; omega⟩
theorem run5 {cs : List Value} {x : T42} {vl va : Value} {l : List T42} {al : List Bool} {oa : Bool} (n : Int) (rl : R22.r false (· < k.size) k [vl] l) (r : R42.r false (· < k.size) k cs x) (hro : k.ro ≤ k.size)
    (hg : k.get 0 = some (.cells #[va] oa)) (hg0 : 0 < k.size) (ra : (Rp.slice Rp.bool).r false (· < k.size) k [va] al) :
    ∃ N, Al k (fun _ w => w = .bool true) (evalV Tryd.prog I0 N (.fn 5) #[vl, .agg cs.toArray, .int .i64 n] k) := by
  refine ⟨l.length + 400 + 1, ?_⟩
  generalize hN : l.length + 400 = N
  have r00 := r
  obtain ⟨v1, rfl, b1, b2, b3, b4, r5⟩ := R42_inv r
  have o1 := (Rp.slice Rp.bool).rone r5 v1 (List.mem_singleton.2 rfl)
  have oa1 := (Rp.slice Rp.bool).rone ra va (List.mem_singleton.2 rfl)
  obtain ⟨aa, ca, rfl, -, -⟩ := slice_form ra
  have h0 : I0 5 = none := rfl
  rw [evalV_call (P := Tryd.prog) (intr := I0) (f := 5) (m := 172) (rs := #[.tmp 6]) h0 Tryd.func5 rfl rfl rfl]
  simp (maxDischargeDepth := 16) only [z08, z09, z0d, z0e, z0p, z0q, z0s, z0t, z0v, z0w, z0x, z11, z1h, z1l, z2o, z3b, z3h, z4e, z4f, z4g, z4h, z4i, z4j, z4l, z4p, z4q, z4r, z4s, z4t, z4u, z4v, z4w, z4x, z4y, z53, Nat.reduceAdd, Nat.reduceSub, ↓reduceIte, hasBx6]
  refine ex_any (Al k _) (Al.ex (run_wakes jDk rfl (by omega) (by simp only [Hp.size_push, Hp.ro_push]; omega))) ?_
  rintro _ k0 ⟨hk0, hr0, rfl⟩
  simp only [Hp.ro_push] at hr0
  have s0 := hk0.size
  simp only [Hp.size_push] at s0
  have kk0 : Keeps k k0 := Keeps.trans (by repeat (first | assumption | exact Keeps.refl _ | refine Keeps.push ?_ _ | refine Keeps.set ?_ (by first | omega | (simp only [Hp.size_push, Hp.size_setB]; omega)) _)) hk0
  have gb := hk0.get k.size (by simp only [Hp.size_push]; omega)
  simp (maxDischargeDepth := 16) only [z34, ↓reduceIte] at gb
  simp (maxDischargeDepth := 16) only [z04, z08, z09, z0a, z0c, z0d, z0e, z0p, z0q, z0s, z0t, z0v, z0x, z0z, z10, z14, z1l, z2h, z3b, z3h, z4e, z4f, z4g, z4h, z4i, z4j, z4k, z4l, z4s, z4u, z4v, z5c, ↓reduceIte, hasBx7]
  refine ex_any (Al k _) (Al.ex (run_played (N := N) (p := (· < k.size)) (by omega) (R22.mono rl (fun _ h => h) id (kk0.fr fun c hc => hc)) (fun c hc => by omega) (by omega))) ?_
  rintro _ k1 ⟨hk1, hr1, b, S, D, rfl, d, hS, h14⟩
  have s1 := hk1.size
  have P : One k k1 b S D := ⟨d, fun c hc => by have := hS c hc; omega, kk0.trans hk1, by omega, by omega⟩
  have g1 := (P.keeps.get 0 hg0).trans hg
  have n1 : 0 < k1.size := by omega
  have gb1 := (hk1.get _ (by omega)).trans gb
  simp (maxDischargeDepth := 16) only [z08, z09, z0d, z0e, z0p, z0q, z0r, z0s, z0t, z0v, z0x, z0y, z0z, z10, z11, z14, z1a, z1e, z1l, z1v, z2h, z2t, z2x, z3b, z3h, z4e, z4f, z4g, z4h, z4i, z4j, z4k, z4l, z4m, z4n, z4o, z4s, z4u, z4v, z52, z5c, z5e, ↓reduceIte, yielded, Hp.cell, hasBx10, tPartx23, g1, ne_f n1, ne_f0 n1, lt_t n1, lt_t0 n1]
  refine ex_any (Al k _) (run_Crash (N := N) (p := (· < k.size)) jDk (by omega) d ((Rp.slice Rp.bool).mono ra (fun _ h => h) id (P.keeps.fr fun c hc => hc)) (fun c hc => ⟨by omega, fun hn => by have := P.new c hn; omega⟩)) ?_
  rintro _ k2 ⟨rfl, st2⟩
  have P2 := P.step (Keeps.refl _) rfl st2
  have L2 : Lv (crashS D al) (-1) := crash_live h14
  have gb2 := (st2.2.2.2 _ (by omega) (fun hn => by have := hS _ hn; omega)).trans gb1
  have s2 := st2.2.1
  have hrow : (writeS (crashS D al) ((3 : Nat) : Int) (blockL 9)).1.2.1.length = 1 := one_row L2 rfl (by decide)
  generalize hE2 : crashS D al = E2 at *
  simp (maxDischargeDepth := 16) only [z0q, z0r, z0s, z0t, z0v, z0w, z0x, z0z, z10, z12, z13, z1l, z1y, z2c, z3b, z3h, z4e, z4f, z4g, z4h, z4i, z4j, z4k, z4l, z4m, z4n, z4o, z4s, z4u, z4v, z52, z59, z5a, z5c, z5e, ↓reduceIte, yielded, hasBx18]
  refine ex_any (Al k _) (Al.ex (run_block jLw (N := N) (f := 9) (by omega) (by have := P2.ro; have := P2.keeps.size; omega) (by decide))) ?_
  rintro _ k3 ⟨hk3, hr3, rfl⟩
  simp (maxDischargeDepth := 16) only [z0r, z0s, z0t, z0v, z0w, z0x, z1l, z3b, z3h, z4e, z4f, z4g, z4h, z4i, z4j, z4k, z4l, z4m, z4n, z4o, z4s, z4u, z4v, z52, z5e, ↓reduceIte, yielded, hasBx17]
  refine ex_any (Al k _) (run_Write (N := N) (i := (3 : Int)) jDk (by omega) (P2.disk.keep hk3 hr3) (blockL_flat (by decide))) ?_
  rintro _ k4 ⟨rfl, st4⟩
  have P4 := P2.step hk3 hr3 st4
  obtain ⟨we, L4⟩ := L2.write (x := blockL 9) (i := 3) (by decide) (by decide)
  rw [dn_neg] at L4
  have we : (writeS E2 3 (blockL 9)).2 = 0 := we
  have hrow : (writeS E2 3 (blockL 9)).1.2.1.length = 1 := hrow
  have L4 : Lv (writeS E2 3 (blockL 9)).1 (-1) := L4
  have s4 := st4.2.1
  have s3 := hk3.size
  have gb4 := (st4.2.2.2 _ (by omega) (fun hn => by have := (P2.disk.own _ hn).1; have := P2.new _ hn; omega)).trans ((hk3.get _ (by omega)).trans gb2)
  clear gb gb1 gb2
  generalize hE4 : (writeS E2 3 (blockL 9)).1 = E4 at *
  have g4 := (P4.keeps.get 0 hg0).trans hg
  have n4 : 0 < k4.size := by omega
  simp (maxDischargeDepth := 16) only [z04, z08, z09, z0a, z0c, z0d, z0e, z0p, z0q, z0r, z0s, z0t, z0v, z0w, z0x, z0y, z0z, z10, z12, z13, z1e, z1l, z1v, z1y, z2c, z2x, z3b, z3h, z4e, z4f, z4g, z4h, z4i, z4j, z4k, z4l, z4m, z4n, z4o, z4s, z4u, z4v, z52, z59, z5a, z5c, z5e, ↓reduceIte, yielded, Hp.cell, hasBx8, tPartx23, we, g4, ne_f n4, ne_f0 n4, lt_t n4, lt_t0 n4]
  refine ex_any (Al k _) (Al.ex (run_shown (N := N) (p := (· < k.size)) P4.disk L4.len ((Rp.slice Rp.bool).mono ra (fun _ h => h) id (P4.keeps.fr fun c hc => hc)) (fun c hc => by have := P4.keeps.size; omega) (by omega))) ?_
  rintro _ k5 ⟨hk5, hr5, rfl, ls, os, fs⟩
  have P5 := P4.keep hk5 hr5
  have hro5 := P5.ro
  have hks5 := P5.keeps.size
  have r50 : (k5.ro ≤ k5.size) = True := by simp; omega
  have ls' : 896 ≤ (shownS E4 al).length := by omega
  have ts : (shownS E4 al).take 896 = shownS E4 al := List.take_of_length_le (by omega)
  have zsz := zero30_size
  have spz : splice zero30 0 (shownS E4 al) = (shownS E4 al).toArray := splice_full (by rw [zsz, ls])
  simp (maxDischargeDepth := 16) only [z08, z09, z0d, z0e, z0p, z0q, z0s, z0t, z0u, z0v, z0x, z0z, z10, z11, z1a, z1f, z1g, z1l, z1w, z1x, z2o, z2t, z2y, z2z, z34, z3b, z3h, z46, z49, z4c, z4e, z4f, z4g, z4h, z4i, z4j, z4k, z4l, z4m, z4n, z4o, z4p, z4s, z4u, z4v, z4z, z53, z72, ↓reduceIte, Hp.wr, hasBx19, tSizex30, tZerox30, r50, ls, os, zsz, spz]
  have gb5 := (hk5.get _ (by have := P4.big; omega)).trans gb4
  have hb5 := P5.big
  refine ex_ev (S := fun v h6 => v = .int .i64 E4.2.2.2.2.2 ∧ (∃ S6, One k h6 b S6 E4 ∧ ¬ S6 k5.size) ∧ h6.get k5.size = some (.cells (shownS E4 al).toArray true) ∧ h6.get k.size = some (.cells #[.int .i64 x.1, .int .i64 x.2.1, .int .i64 x.2.2.1, .int .u8 x.2.2.2.1, v1] true) ∧ k5.size < h6.size) (Al k _) (fun h6 hh6 => ?_) ?_
  · have s6 : h6.size = k5.size + 1 := by rw [hh6]; simp only [Hp.size_setB, Hp.size_push]
    have r6 : h6.ro = k5.ro := by rw [hh6]; simp only [Hp.ro_setB, Hp.ro_push]
    have k6 : Keeps k5 h6 := by rw [hh6]; exact (by repeat (first | assumption | exact Keeps.refl _ | refine Keeps.push ?_ _ | refine Keeps.set ?_ (by first | omega | (simp only [Hp.size_push, Hp.size_setB]; omega)) _))
    have g6 : h6.get k5.size = some (.cells (shownS E4 al).toArray true) := by rw [hh6, get_set_self]
    have P6 := P5.keep k6 r6
    exact ⟨_, _, run_Ops (N := N) jDk.Ops (by omega) P6.disk, rfl, ⟨_, P6, fun hn => by have := (P5.disk.own _ hn).2; omega⟩, g6, (k6.get _ hb5).trans gb5, by omega⟩
  rintro _ h6 ⟨rfl, ⟨S6, P6, nw6⟩, g6, gb6, n6⟩
  have hb6 := P6.big
  have hro6 := P6.ro
  have vk : ∀ kept bits, vokB (allow h6.size kept bits) v1 = true := fun kept bits => vb_old (vin_mono (fun c hc => by omega) (R42.rvin r00 v1 (by simp)))
  simp (maxDischargeDepth := 16) only [z09, z0d, z0e, z0p, z0q, z0s, z0t, z0v, z11, z3b, z4e, z4f, z4g, z4h, z4i, z7t]
  rw [evalDraw_modes _ _ [(2, 0, 1), (2, 1, 3), (0, 3, 7), (0, 7, 15), (0, 0, 16), (2, 16, 48), (0, 48, 112), (0, 112, 240), (0, 240, 496), (0, 63, 575), (4, 575, 1599), (0, 2047, 4095), (4, 4095, 8191)] (by kernel_rfl)]
  simp (maxDischargeDepth := 16) only [z0t, z0v, z0x, z0z, z1e, z1l, z1v, z2x, z3b, z3h, z3x, z3y, z3z, z41, z43, z44, z45, z46, z4e, z4f, z4g, z4h, z4i, z4j, z4k, z4l, z4p, z4q, z4r, z4s, z4u, z4v, z4z, z53, z5f, z5l, z5x, z62, z6d, z6g, z6t, z6v, z6x, z70, z71, Nat.reduceAdd, Nat.reduceSub, ↓reduceIte, keepR, Hp.row, hasBx12, tPartx42, gb6, ne_f hb6, ne_f0 hb6, lt_t hb6, lt_t0 hb6, vk]
  obtain ⟨j7, hj7, e7⟩ := kind7 x
  obtain ⟨j14, hj14, e14⟩ := mod_eq x.2.1 (q := 14) (by decide) (by decide)
  have e14 : IntKind.i64.wrap ((IntKind.u64.wrap x.2.1).tmod 14) = (j14 : Int) := e14
  refine kd2Q (Al k _) (run_kind jLw (N := N) (p := (· < k.size)) (x := x) (by omega) (R42.mono r00 (fun _ h => h) id (Fr.of fun c hc => by rw [view_nil, P6.keeps.get c hc]))) (fun v k' _ h => by rw [h]; exact vin_flat flatB_int) (by decide) ?_
  rintro _ k7 m hk7 rfl ms mr mg -
  have s7 := hk7.size
  rw [view_size] at s7
  have gm := (mg _ hb6).trans gb6
  have hbm : k.size < m.size := by omega
  have vgm : ∀ bits, (m.view bits (keepS 1 h6.size k7.size [])).get k.size = some (.cells #[.int .i64 x.1, .int .i64 x.2.1, .int .i64 x.2.2.1, .int .u8 x.2.2.2.1, v1] true) := fun bits => (view_keepS hb6).trans (view_nil.trans gm)
  have al6 : ∀ kept bits, allow h6.size kept bits k.size = true := fun kept bits => allow_old hb6
  have rm0 : (m.ro ≤ k.size) = True := by simp; omega
  simp (maxDischargeDepth := 16) only [z08, z09, z0d, z0e, z0q, z0r, z0s, z0t, z0u, z0v, z0w, z0x, z0z, z10, z13, z14, z15, z16, z1e, z1f, z1l, z1v, z1w, z1x, z2h, z2m, z2w, z2x, z2y, z33, z3b, z3h, z3p, z3v, z3w, z44, z45, z46, z49, z4b, z4d, z4e, z4f, z4g, z4h, z4i, z4j, z4k, z4l, z4m, z4n, z4o, z4p, z4q, z4r, z4s, z4u, z4v, z50, z51, z52, z53, z54, z5c, z5e, z5f, z5j, z5k, z5l, z5t, z5u, z5x, z62, z66, z6a, z6j, z6t, z6x, z72, z7z, z8d, Nat.reduceLeDiff, Nat.reduceAdd, ↓reduceIte, yielded, keepR, Hp.cell, Hp.wr, hasBx15, tFieldAx42x0, tFieldAx42x1, tIntx3x45, tIntx45x3, tPartx3, tSizex3, bin_rem (show (7 : Int) ≠ 0 by decide), bin_rem (show (14 : Int) ≠ 0 by decide), vgm, gm, ne_f hbm, ne_f0 hbm, lt_t hbm, lt_t0 hbm, al6, rm0, e7, e14]
  have ef : (failS E4 0).2 = 0 := by unfold failS; rw [if_neg (by rw [L4.dead]; decide)]
  have eF : (failS E4 0).1 = flw E4 := by unfold failS; rw [if_neg (by rw [L4.dead]; decide)]; rfl
  have z64 : i64ok 0 := ⟨by rw [i64_minmax.1]; omega, by rw [i64_minmax.2]; omega⟩
  refine ex_ev (S := fun v h9 => v = .int .i64 0 ∧ (∃ S9, One k h9 b S9 (flw E4) ∧ ¬ S9 k5.size) ∧ h9.get k5.size = some (.cells (shownS E4 al).toArray true) ∧ h9.get k.size = some (.cells #[.int .i64 (j7 : Int), .int .i64 (j14 : Int), .int .i64 x.2.2.1, .int .u8 x.2.2.2.1, v1] true) ∧ k5.size < h9.size) (Al k _) (fun h8 hh8 => ?_) ?_
  · have s8 : h8.size = m.size := by rw [hh8]; simp only [Hp.size_setB]
    have r8 : h8.ro = m.ro := by rw [hh8]; simp only [Hp.ro_setB]
    have g8 : h8.get k.size = some (.cells #[.int .i64 (j7 : Int), .int .i64 (j14 : Int), .int .i64 x.2.2.1, .int .u8 x.2.2.2.1, v1] true) := by rw [hh8, get_set_self]
    have o8 : ∀ c, c ≠ k.size → c < h6.size → h8.get c = h6.get c := fun c h1 h2 => by rw [hh8, get_set_ne h1, get_set_ne h1, mg c h2]
    have P8 : One k h8 b S6 E4 := ⟨P6.disk.mono (by omega) (by omega) (fun c hc => o8 c (by have := P6.new c hc; omega) (P6.disk.own c hc).2), P6.new, ⟨by omega, fun c hc => by rw [o8 c (by omega) (by omega), P6.keeps.get c hc]⟩, by omega, by omega⟩
    refine (run_Fail (N := N) (n := 0) jDk (by omega) P8.disk z64).mono ?_
    rintro v h9 ⟨rfl, st⟩
    rw [ef, eF] at *
    have c9 := st.2
    refine ⟨rfl, ⟨_, P8.step (Keeps.refl _) rfl st, fun hn => ?_⟩, ?_, ?_, by have := c9.1; omega⟩
    · rcases hn with hn | hn
      · exact nw6 hn
      · omega
    · exact (c9.2.2 _ (by omega) nw6).trans ((o8 _ (by omega) n6).trans g6)
    · exact (c9.2.2 _ (by omega) (fun hn => by have := P6.new _ hn; omega)).trans g8
  rintro _ h9 ⟨rfl, ⟨S9, P9, nw9⟩, g9, gb9, n9⟩
  have hb9 := P9.big
  simp (maxDischargeDepth := 16) only [z04, z08, z09, z0a, z0c, z0d, z0e, z0p, z0q, z0r, z0s, z0t, z0v, z0w, z0x, z0z, z10, z12, z13, z1e, z1l, z1v, z1y, z2c, z2x, z3b, z3h, z3x, z3y, z3z, z41, z43, z46, z4e, z4f, z4g, z4h, z4i, z4j, z4k, z4l, z4m, z4n, z4o, z4p, z4q, z4r, z4s, z4u, z4v, z4z, z52, z53, z59, z5a, z5c, z5e, Nat.reduceAdd, Nat.reduceSub, ↓reduceIte, yielded, Hp.row, hasBx11, tPartx42, gb9, ne_f hb9, ne_f0 hb9, lt_t hb9, lt_t0 hb9]
  have rz : R42.r false (· < k.size) k [.int .i64 (j7 : Int), .int .i64 (j14 : Int), .int .i64 x.2.2.1, .int .u8 x.2.2.2.1, v1] ((j7 : Int), (j14 : Int), x.2.2) := R42_mk (x := ((j7 : Int), (j14 : Int), x.2.2)) (small_ok j7 (by omega)) (small_ok j14 (by omega)) b3 b4 r5
  have ed : deedS (flw E4) ((j7 : Int), (j14 : Int), x.2.2) = (E4, zeroB, 8) := flawed_deed L4 (kindN_small hj7 _) hj7 (show (0 : Int) ≤ (j14 : Int) ∧ (j14 : Int) < 14 by omega)
  have hs9 := P9.keeps.size
  refine ex_any (Al k _) (run_does (N := N) (p := (· < k.size)) jDk jLw (by omega) P9.disk (R42.mono rz (fun _ h => h) id (P9.keeps.fr fun c hc => hc)) (fun c hc => ⟨by omega, fun hn => by have := P9.new c hn; omega⟩)) ?_
  rw [ed]
  rintro _ k9 ⟨rfl, st9, -⟩
  have P10 := P9.step (Keeps.refl _) rfl st9
  have s9' := st9.2.1
  have g10 := (st9.2.2.2 _ n9 nw9).trans g9
  have hro10 := P10.ro
  have hb10 := P10.big
  have nw10 : ¬ grow S9 h9 k9 k5.size := fun hn => by
    rcases hn with hn | hn
    · exact nw9 hn
    · omega
  generalize hSX : grow S9 h9 k9 = SX at *
  clear hSX
  have rk9 : (k9.ro ≤ k9.size) = True := by simp; omega
  have sp64 : ∀ (cs : List Value), cs.length = 64 → ∀ l : List Value, l.length = 64 → splice l.toArray 0 cs = cs.toArray := fun cs h l hl => splice_full (by simp [h, hl])
  have hzb : zeroB.length = 64 := rfl
  have hz64 : 64 ≤ zeroB.length := by decide
  have oz : zeroB.all oneC = true := rfl
  have tkz : zeroB.take 64 = zeroB := rfl
  simp (maxDischargeDepth := 16) only [z08, z09, z0d, z0e, z0p, z0q, z0r, z0s, z0t, z0u, z0v, z0w, z0x, z0z, z10, z11, z13, z1a, z1f, z1g, z1l, z1w, z1x, z2c, z2o, z2t, z2y, z2z, z34, z3b, z3h, z46, z49, z4c, z4e, z4f, z4g, z4h, z4i, z4j, z4k, z4l, z4m, z4n, z4o, z4p, z4q, z4r, z4s, z4u, z4v, z4z, z52, z53, z5a, z5c, z5e, z72, Nat.reduceAdd, ↓reduceIte, yielded, Hp.wr, hasBx19, tSizex29, tZerox29, rk9, hzb, oz, sp64]
  refine ex_ev (S := fun v h11 => v = .int .i64 E4.2.2.2.2.2 ∧ (∃ S11, One k h11 b S11 E4 ∧ ¬ S11 k5.size) ∧ h11.get k5.size = some (.cells (shownS E4 al).toArray true) ∧ k5.size < h11.size) (Al k _) (fun h11 hh11 => ?_) ?_
  · have s11 : h11.size = k9.size + 1 := by rw [hh11]; simp only [Hp.size_setB, Hp.size_push]
    have r11 : h11.ro = k9.ro := by rw [hh11]; simp only [Hp.ro_setB, Hp.ro_push]
    have k11 : Keeps k9 h11 := by rw [hh11]; exact (by repeat (first | assumption | exact Keeps.refl _ | refine Keeps.push ?_ _ | refine Keeps.set ?_ (by first | omega | (simp only [Hp.size_push, Hp.size_setB]; omega)) _))
    have P11 := P10.keep k11 r11
    exact ⟨_, _, run_Ops (N := N) jDk.Ops (by omega) P11.disk, rfl, ⟨_, P11, nw10⟩, (k11.get _ (by omega)).trans g10, by omega⟩
  rintro _ h11 ⟨rfl, ⟨S11, P11, nw11⟩, g11, n11⟩
  have gg11 := (P11.keeps.get 0 hg0).trans hg
  have hs11 := P11.keeps.size
  have n110 : 0 < h11.size := by omega
  simp (maxDischargeDepth := 16) only [z04, z08, z09, z0a, z0c, z0d, z0e, z0p, z0q, z0r, z0s, z0t, z0v, z0w, z0x, z0y, z0z, z10, z12, z13, z1e, z1l, z1v, z1y, z2c, z2x, z3b, z3h, z4e, z4f, z4g, z4h, z4i, z4j, z4k, z4l, z4m, z4n, z4o, z4s, z4u, z4v, z52, z59, z5a, z5c, z5e, ↓reduceIte, yielded, Hp.cell, hasBx8, tPartx23, gg11, ne_f n110, ne_f0 n110, lt_t n110, lt_t0 n110]
  refine ex_any (Al k _) (Al.ex (run_shown (N := N) (p := (· < k.size)) P11.disk L4.len ((Rp.slice Rp.bool).mono ra (fun _ h => h) id (P11.keeps.fr fun c hc => hc)) (fun c hc => by omega) (by omega))) ?_
  rintro _ k12 ⟨hk12, hr12, rfl, -⟩
  have P12 := P11.keep hk12 hr12
  have hro12 := P12.ro
  have hks12 := P12.keeps.size
  have g12 := (hk12.get _ n11).trans g11
  have n12 : k5.size < k12.size := by have := hk12.size; omega
  have r120 : (k12.ro ≤ k12.size) = True := by simp; omega
  have nO := neO fs
  simp (maxDischargeDepth := 16) only [z08, z09, z0d, z0e, z0p, z0q, z0r, z0s, z0t, z0u, z0v, z0w, z0x, z0z, z10, z11, z12, z13, z14, z1a, z1e, z1f, z1g, z1l, z1v, z1w, z1x, z1y, z2h, z2o, z2t, z2x, z2y, z2z, z33, z34, z35, z3b, z3h, z3x, z3y, z3z, z46, z49, z4c, z4e, z4f, z4g, z4h, z4i, z4j, z4k, z4l, z4m, z4n, z4o, z4p, z4s, z4u, z4v, z4z, z52, z53, z59, z5c, z5e, z72, Nat.reduceSub, ↓reduceIte, yielded, Hp.row, Hp.wr, hasBx9, tPartx30, tSizex30, tZerox30, r120, ls, ts, os, zsz, spz, g12, ne_f n12, ne_f0 n12, lt_t n12, lt_t0 n12, nO]
  refine ex_ev (S := fun v h => ∃ av cv S13, v = .slice av 1 cv ∧ One k h b S13 E4) (Al k _) (fun h13 hh13 => ?_) ?_
  · have r13 : h13.ro = k12.ro := by rw [hh13]; simp only [Hp.ro_setB, Hp.ro_push]
    have k13 : Keeps k12 h13 := by rw [hh13]; exact (by repeat (first | assumption | exact Keeps.refl _ | refine Keeps.push ?_ _ | refine Keeps.set ?_ (by first | omega | (simp only [Hp.size_push, Hp.size_setB]; omega)) _))
    have P13 := P12.keep k13 r13
    refine (run_Pending (N := N) jDk (by omega) P13.disk).mono ?_
    rintro v h14 ⟨hk, hr, q, o, -⟩
    obtain ⟨av, cv, rfl⟩ := o.form
    rw [List.length_map, hrow]
    exact ⟨av, cv, _, rfl, P13.keep hk hr⟩
  rintro _ h14 ⟨av, cv, S14, rfl, P14⟩
  have q1 : (((1 : Nat) : Int) = 1) = True := by simp
  obtain ⟨j9, hj9, e9⟩ := mod_eq n (q := 9) (by decide) (by decide)
  have e9 : IntKind.i64.wrap ((IntKind.u64.wrap n).tmod 9) = (j9 : Int) := e9
  simp (maxDischargeDepth := 16) only [z04, z08, z09, z0a, z0c, z0d, z0e, z0p, z0q, z0r, z0s, z0t, z0v, z0w, z0x, z0z, z10, z11, z12, z13, z15, z1l, z1p, z1r, z1y, z2c, z3b, z3h, z4e, z4f, z4g, z4h, z4i, z4j, z4k, z4l, z4m, z4n, z4o, z4s, z4u, z4v, z50, z51, z52, z59, z5a, z5c, z5e, z7p, z7z, ↓reduceIte, yielded, hasBx14, tIntx3x45, tIntx45x3, tLenx34, bin_rem (show (9 : Int) ≠ 0 by decide), e9]
  have ea : armS E4 (j9 : Int) = ((E4.1, E4.2.1, (j9 : Int), E4.2.2.2), 0) := by
    unfold armS; rw [if_neg (by rw [L4.dead]; decide), show max (j9 : Int) (-1) = j9 by omega]
  have L5 : Lv (E4.1, E4.2.1, (j9 : Int), E4.2.2.2) ((j9 : Int) - ((0 : Nat) : Int)) := ⟨L4.dead, by simp, L4.flaw, L4.len⟩
  refine ex_any (Al k _) (run_Arm (N := N) jDk (by omega) P14.disk (small_ok j9 (by omega))) ?_
  rw [ea]
  rintro _ h15 ⟨rfl, st15⟩
  have P15 := P14.step (Keeps.refl _) rfl st15
  simp (maxDischargeDepth := 16) only [z04, z08, z09, z0a, z0c, z0d, z0e, z0p, z0q, z0s, z0t, z0v, z0w, z0z, z10, z13, z2c, z3b, z4e, z4f, z4g, z4h, z4i, z5a, z5c, evalC_block]
  refine loop_rule (Al k _) (fun m a h => ∃ (i : Nat) (D : DV) (S : Nat → Prop), m = j9 - i ∧ i ≤ j9 ∧ One k h b S D ∧ Lv D ((j9 : Int) - (i : Int)) ∧
    a.tmps.size = 172 ∧ a.defers = [] ∧ a.tmps.getD 2 undef = .int .i64 n ∧ a.tmps.getD 7 undef = .pointer (some ⟨b, 0, none⟩) ∧ a.tmps.getD 109 undef = .int .i64 (j9 : Int) ∧ a.tmps.getD 110 undef = .int .i64 (i : Int)) ?_ _ j9 _ _ ?_ ?_
  · intro m n' a h hI' ih
    obtain ⟨i, D, S, hm, hi, P, L, hxs, hxd, l2, l7, l109, l110⟩ := hI'
    obtain ⟨g, rfl⟩ : ∃ g : Nat → Value, a = { tmps := #[g 0, g 1, .int .i64 n, g 3, g 4, g 5, g 6, .pointer (some ⟨b, 0, none⟩), g 8, g 9, g 10, g 11, g 12, g 13, g 14, g 15, g 16, g 17, g 18, g 19, g 20, g 21, g 22, g 23, g 24, g 25, g 26, g 27, g 28, g 29, g 30, g 31, g 32, g 33, g 34, g 35, g 36, g 37, g 38, g 39, g 40, g 41, g 42, g 43, g 44, g 45, g 46, g 47, g 48, g 49, g 50, g 51, g 52, g 53, g 54, g 55, g 56, g 57, g 58, g 59, g 60, g 61, g 62, g 63, g 64, g 65, g 66, g 67, g 68, g 69, g 70, g 71, g 72, g 73, g 74, g 75, g 76, g 77, g 78, g 79, g 80, g 81, g 82, g 83, g 84, g 85, g 86, g 87, g 88, g 89, g 90, g 91, g 92, g 93, g 94, g 95, g 96, g 97, g 98, g 99, g 100, g 101, g 102, g 103, g 104, g 105, g 106, g 107, g 108, .int .i64 (j9 : Int), .int .i64 (i : Int), g 111, g 112, g 113, g 114, g 115, g 116, g 117, g 118, g 119, g 120, g 121, g 122, g 123, g 124, g 125, g 126, g 127, g 128, g 129, g 130, g 131, g 132, g 133, g 134, g 135, g 136, g 137, g 138, g 139, g 140, g 141, g 142, g 143, g 144, g 145, g 146, g 147, g 148, g 149, g 150, g 151, g 152, g 153, g 154, g 155, g 156, g 157, g 158, g 159, g 160, g 161, g 162, g 163, g 164, g 165, g 166, g 167, g 168, g 169, g 170, g 171], defers := [] } := ⟨fun k => a.tmps.getD k undef, (act_eta hxs hxd).trans (by simp only [unrollL, Nat.reduceAdd, Nat.zero_add, l2, l7, l109, l110])⟩; clear hxs hxd l2 l7 l109 l110
    have hs := P.keeps.size
    have hpro := P.ro
    by_cases hlt : i < j9
    · have hlt' := lt_cast hlt
      have w3 := i64_succ (i := i) (by omega)
      have hf0 : (j9 : Int) - (i : Int) ≠ 0 := by omega
      obtain ⟨er, Lr⟩ := L.read (i := i) hf0 (by omega)
      simp (maxDischargeDepth := 16) only [z04, z08, z09, z0a, z0b, z0d, z0e, z0p, z0q, z0s, z0t, z0v, z0x, z0z, z10, z11, z13, z1l, z2d, z3b, z3h, z4e, z4f, z4g, z4h, z4i, z4j, z4k, z4l, z4s, z4u, z4v, z5a, evalC_block, ↓reduceIte, hasBx20, hlt']
      refine ex_any (Al k _) (run_Read (N := N) (i := (i : Int)) jDk.Read jDk.act jDk.power jDk.burns jDk.Read1 jDk.held jDk.IndexFunc jDk.held1 (by omega) P.disk) ?_
      rintro _ h3 ⟨rfl, d3, c3, hf3⟩
      have P3 := P.step (Keeps.refl _) rfl (Step.of d3 c3 (by omega))
      generalize hR : readS D i = R at *
      have s3 := c3.1
      have hpro3 := P3.ro
      have hks3 := P3.keeps.size
      have rh3 : (h3.ro ≤ h3.size) = True := by simp; omega
      have l3 : R.2.1.length = 64 := hf3.len
      have l3' : 64 ≤ R.2.1.length := by omega
      have t3 : R.2.1.take 64 = R.2.1 := List.take_of_length_le (by omega)
      simp (maxDischargeDepth := 16) only [z08, z09, z0d, z0e, z0p, z0q, z0r, z0s, z0t, z0u, z0v, z0w, z0x, z0z, z10, z11, z13, z15, z1a, z1f, z1g, z1l, z1w, z1x, z2c, z2o, z2t, z2y, z2z, z34, z3b, z3h, z46, z49, z4c, z4e, z4f, z4g, z4h, z4i, z4j, z4k, z4l, z4m, z4n, z4o, z4p, z4q, z4r, z4s, z4u, z4v, z4z, z50, z51, z52, z53, z5a, z5c, z5e, z72, z7z, Nat.reduceAdd, ↓reduceIte, yielded, Hp.wr, hasBx18, tIntx3x5, tSizex29, tZerox29, rh3, l3, flat_all1 hf3, sp64, er]
      have hu8 : IntKind.u8.min ≤ IntKind.u8.wrap n ∧ IntKind.u8.wrap n ≤ IntKind.u8.max := by
        show (0 : Int) ≤ n % 256 ∧ n % 256 ≤ 255
        omega
      refine ex_ev (S := fun v h4 => v = .agg (blockL (IntKind.u8.wrap n)).toArray ∧ One k h4 b (grow S h h3) R.1) (Al k _) (fun h4 hh4 => ?_) ?_
      · have r4 : h4.ro = h3.ro := by rw [hh4]; simp only [Hp.ro_setB, Hp.ro_push]
        have k4 : Keeps h3 h4 := by rw [hh4]; exact (by repeat (first | assumption | exact Keeps.refl _ | refine Keeps.push ?_ _ | refine Keeps.set ?_ (by first | omega | (simp only [Hp.size_push, Hp.size_setB]; omega)) _))
        have P4 := P3.keep k4 r4
        refine (Al.ex (run_block jLw (N := N) (f := IntKind.u8.wrap n) (by omega) (by have := P4.ro; have := P4.keeps.size; omega) hu8)).mono ?_
        rintro v h5 ⟨hk5, hr5, rfl⟩
        exact ⟨rfl, P4.keep hk5 hr5⟩
      rintro _ h5 ⟨rfl, P5⟩
      obtain ⟨ew, Lw⟩ := Lr.write (x := blockL (IntKind.u8.wrap n)) (i := i) hf0 (by omega)
      rw [dn_small (by omega) (by omega)] at Lw
      simp (maxDischargeDepth := 16) only [z0r, z0s, z0t, z0v, z0x, z1l, z3b, z3h, z4e, z4f, z4g, z4h, z4i, z4j, z4k, z4l, z4m, z4n, z4o, z4s, z4u, z4v, z52, z5e, ↓reduceIte, yielded, hasBx17]
      refine ex_any (Al k _) (run_Write (N := N) (i := (i : Int)) jDk (by omega) P5.disk (blockL_flat hu8)) ?_
      rintro _ h6 ⟨rfl, st6⟩
      have P6 := P5.step (Keeps.refl _) rfl st6
      simp (maxDischargeDepth := 16) only [z04, z08, z0a, z0c, z0d, z0e, z0h, z0k, z0p, z0q, z0r, z0s, z0t, z0v, z0w, z0z, z10, z12, z13, z1y, z24, z2c, z3b, z4e, z4f, z4g, z4h, z4i, z4m, z4n, z4o, z52, z59, z5a, z5c, z5e, ↓reduceIte, yielded, ew, w3]
      exact ih (m - 1) _ _ (by omega) ⟨i + 1, _, _, by omega, by omega, P6, by rw [show (j9 : Int) - ((i + 1 : Nat) : Int) = (j9 : Int) - (i : Int) - 1 by omega]; exact Lw, rfl, rfl, rfl, rfl, rfl, rfl⟩
    · obtain rfl : i = j9 := by omega
      have hlt' := nlt_cast hlt
      rw [Int.sub_self] at L
      obtain ⟨eb, db, lb⟩ := L.burnt
      simp (maxDischargeDepth := 16) only [z06, z08, z09, z0a, z0c, z0d, z0e, z0g, z0j, z0m, z0p, z0q, z0s, z0t, z0v, z0x, z0z, z10, z13, z1l, z2d, z3b, z3h, z4e, z4f, z4g, z4h, z4i, z4j, z4k, z4l, z4s, z4u, z4v, z5b, ↓reduceIte, hasBx16, hlt']
      refine ex_any (Al k _) (run_Sync (N := N) jDk (by omega) P.disk) ?_
      rintro _ h3 ⟨rfl, st3⟩
      have P3 := P.step (Keeps.refl _) rfl st3
      generalize hB : (syncS D).1 = B at *
      have rd := run_Dead (N := N) jDk.Dead (by omega) P3.disk
      rw [db] at rd
      simp (maxDischargeDepth := 16) only [z04, z08, z09, z0a, z0c, z0d, z0e, z0p, z0q, z0r, z0s, z0t, z0v, z0w, z0x, z0z, z10, z12, z13, z14, z1l, z1y, z2c, z2h, z3b, z3h, z4e, z4f, z4g, z4h, z4i, z4j, z4k, z4l, z4m, z4n, z4o, z4s, z4u, z4v, z52, z59, z5a, z5c, z5e, ↓reduceIte, yielded, hasBx13, hasBx20, eb, rd]
      refine ex_any (Al k _) (run_Read (N := N) (i := 0) jDk.Read jDk.act jDk.power jDk.burns jDk.Read1 jDk.held jDk.IndexFunc jDk.held1 (by omega) P3.disk) ?_
      rw [dead_read db]
      rintro _ h4 ⟨rfl, d4, c4, -⟩
      have P4 := P3.step (Keeps.refl _) rfl (Step.of d4 c4 (by have := P3.ro; have := P3.keeps.size; omega))
      have hro4 := P4.ro
      have hks4 := P4.keeps.size
      have rh4 : (h4.ro ≤ h4.size) = True := by simp; omega
      simp (maxDischargeDepth := 16) only [z08, z09, z0d, z0e, z0p, z0q, z0r, z0s, z0t, z0u, z0v, z0w, z0x, z0z, z10, z11, z13, z1a, z1b, z1f, z1g, z1l, z1w, z1x, z2b, z2o, z2t, z2y, z2z, z34, z3b, z3h, z46, z49, z4c, z4e, z4f, z4g, z4h, z4i, z4j, z4k, z4l, z4m, z4n, z4o, z4p, z4q, z4r, z4s, z4u, z4v, z4z, z50, z51, z52, z53, z5a, z5e, z72, z80, z81, Nat.reduceAdd, ↓reduceIte, yielded, Hp.wr, hasBx17, tBuildOkx29, tSizex29, tZerox29, rh4, hzb, oz, sp64]
      refine ex_ev (S := fun v h5 => v = .int .i64 9 ∧ ∃ S5, One k h5 b S5 B) (Al k _) (fun h4' hh4 => ?_) ?_
      · have r4' : h4'.ro = h4.ro := by rw [hh4]; simp only [Hp.ro_setB, Hp.ro_push]
        have k4' : Keeps h4 h4' := by rw [hh4]; exact (by repeat (first | assumption | exact Keeps.refl _ | refine Keeps.push ?_ _ | refine Keeps.set ?_ (by first | omega | (simp only [Hp.size_push, Hp.size_setB]; omega)) _))
        have P4' := P4.keep k4' r4'
        refine (run_Write (N := N) (i := 0) (x := zeroB) jDk (by omega) P4'.disk flat_zeroB).mono ?_
        rw [dead_write db]
        rintro v h5 ⟨rfl, st5⟩
        exact ⟨rfl, _, P4'.step (Keeps.refl _) rfl st5⟩
      rintro _ h5 ⟨rfl, S5, P5⟩
      simp (maxDischargeDepth := 16) only [z0q, z0r, z0s, z0t, z0v, z0w, z0x, z0z, z10, z12, z13, z1l, z1y, z2b, z3b, z3h, z4e, z4f, z4g, z4h, z4i, z4j, z4k, z4l, z4m, z4n, z4o, z4s, z4u, z4v, z52, z5a, z5e, ↓reduceIte, yielded, hasBx14]
      refine ex_any (Al k _) (run_Arm (N := N) (n := 1) jDk (by omega) P5.disk (small_ok 1 (by omega))) ?_
      rw [dead_arm db]
      rintro _ h6 ⟨rfl, st6⟩
      have P6 := P5.step (Keeps.refl _) rfl st6
      simp (maxDischargeDepth := 16) only [z0q, z0r, z0s, z0t, z0v, z0w, z0x, z0z, z10, z12, z13, z1l, z1y, z2b, z3b, z3h, z4e, z4f, z4g, z4h, z4i, z4j, z4k, z4l, z4m, z4n, z4o, z4s, z4u, z4v, z52, z5a, z5e, ↓reduceIte, yielded, hasBx15]
      refine ex_any (Al k _) (run_Fail (N := N) (n := 1) jDk (by omega) P6.disk (small_ok 1 (by omega))) ?_
      rw [dead_fail db]
      rintro _ h7 ⟨rfl, st7⟩
      have P7 := P6.step (Keeps.refl _) rfl st7
      simp (maxDischargeDepth := 16) only [z0q, z0r, z0s, z0t, z0v, z0w, z0x, z0z, z10, z12, z13, z1l, z1y, z2b, z3b, z3h, z4e, z4f, z4g, z4h, z4i, z4j, z4k, z4l, z4m, z4n, z4o, z4s, z4u, z4v, z52, z5a, z5e, ↓reduceIte, yielded, hasBx10]
      refine ex_any (Al k _) (run_Crash (N := N) (p := nop) (ks := []) jDk (by omega) P7.disk (ownFr OwnC.nil (fun c h => by cases h)) (fun c hc => hc.elim)) ?_
      rintro _ h8 ⟨rfl, st8⟩
      have P8 := P7.step (Keeps.refl _) rfl st8
      have rd8 := run_Dead (N := N) jDk.Dead (by omega) P8.disk
      rw [(show (crashS B []).2.2.2.2.1 = false from rfl)] at rd8
      simp (maxDischargeDepth := 16) only [z05, z0d, z0e, z0o, z0p, z0q, z0r, z0s, z0t, z0v, z0w, z0x, z0z, z10, z11, z12, z13, z14, z1l, z1y, z2b, z2h, z3b, z3c, z3f, z3h, z4e, z4f, z4g, z4h, z4i, z4j, z4k, z4l, z4m, z4n, z4o, z4s, z4u, z4v, z4z, z52, z5a, z5d, z5e, ↓reduceIte, yielded, hasBx13, rd8]
      exact Al.done P8.keeps P8.ro rfl
  · omega
  · exact ⟨0, _, _, by omega, by omega, P15, L5, rfl, rfl, rfl, rfl, rfl, rfl⟩
end
end Go.Abs.B1d
