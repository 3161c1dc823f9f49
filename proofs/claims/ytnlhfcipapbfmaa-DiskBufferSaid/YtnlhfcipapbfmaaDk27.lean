/- The layer is awake. -/
import Derived.Test.YtnlhfcipapbfmaaDk26
namespace Go.Abs.B1
open Go.Proofs
set_option maxRecDepth 10000
set_option maxHeartbeats 4000000
set_option linter.all false
def x7 : List Value := .int .u8 7 :: List.replicate 63 (.int .u8 0)
theorem x7_flat : flatOk K98 x7 := ⟨⟨rfl, by decide, by decide⟩, flat_rep (by decide) 63⟩
def Dn : Nat → DV
  | 0 => newS 20
  | i + 1 => (writeS (Dn i) i x7).1
def En : DV := crashS (Dn 9) []
theorem wk1 : (List.range 9).all (fun i => decide ((writeS (Dn i) i x7).2 = 0)) = true := by kernel_rfl
theorem wk2 : (Dn 9).2.1.length = 8 := by kernel_rfl
theorem wk3 : (readS En 0).2.2 = 0 ∧ (readS (readS En 0).1 1).2.2 = 0 := by constructor <;> kernel_rfl
theorem wk4 : (readS En 0).2.1[0]? = some (.int .u8 7) ∧ (readS (readS En 0).1 1).2.1[0]? = some (.int .u8 0) := by constructor <;> kernel_rfl
section
variable {I : Intr} {N : Nat} {k : Hp} {S : Nat → Prop} {b : Nat} {D : DV} {p : Nat → Prop}
theorem Step.fresh {h k' : Hp} {E : DV} (st : Step S h k' b E) (hS : ∀ c, S c → k.size ≤ c) (hk : Keeps k h) : (∀ c, grow S h k' c → k.size ≤ c) ∧ Keeps k k' := by
  have s1 := hk.size
  refine ⟨fun c hc => ?_, ⟨by have := st.2.1; omega, fun c hc => ?_⟩⟩
  · rcases hc with hc | hc
    · exact hS c hc
    · omega
  · rw [st.2.2.2 c (by omega) (fun h => by have := hS c h; omega), hk.get c hc]
theorem run_wakes (J : IDk I) (h0 : I 35 = none) (hN : 120 < N) (hro : k.ro ≤ k.size) : Al k (fun _ v => v = .bool true) (evalV Try.prog I N (.fn 35) #[] k) := by
  obtain ⟨N, rfl⟩ : ∃ n, N = n + 1 := ⟨N - 1, by omega⟩
  rw [evalV_call (P := Try.prog) (intr := I) (f := 35) (m := 61) (rs := #[.tmp 0]) h0 Try.func35 rfl rfl rfl]
  simp (maxDischargeDepth := 16) only [z08, z09, z0d, z0e, z0p, z0q, z0s, z0t, z0w, z0x, z11, z1l, z3h, z4g, z4h, z4j, z4k, z4l, z4p, z4r, z4s, z4u, z4v, z4w, z4x, z4y, Nat.reduceSub, ↓reduceIte, hasBx36]
  refine ex_any (Al k _) (run_New (N := N) (n := 20) J (by omega) hro (by decide) (by decide)) ?_
  rintro _ k1 ⟨b, rfl, hb, hk1, hr1, d1⟩
  simp (maxDischargeDepth := 16) only [z04, z08, z09, z0a, z0c, z0d, z0e, z0p, z0q, z0r, z0s, z0t, z0v, z0w, z0z, z10, z11, z12, z13, z1a, z1y, z2c, z2t, z3b, z4e, z4f, z4g, z4h, z4i, z4m, z4n, z4o, z52, z59, z5a, z5c, z5e, z7i, z7m, evalC_block, ↓reduceIte, yielded, tPtrx89]
  refine loop_rule (Al k _) (fun m x h => ∃ (i : Nat) (S : Nat → Prop), m = 9 - i ∧ i ≤ 9 ∧ DiskAt S h b (Dn i) ∧ (∀ c, S c → k.size ≤ c) ∧ Keeps k h ∧ h.ro = k.ro ∧
    x.tmps.size = 61 ∧ x.defers = [] ∧ x.tmps.getD 1 undef = .pointer (some ⟨b, 0, none⟩) ∧ x.tmps.getD 17 undef = .int .i64 (i : Int)) ?_ _ 9 _ _ ?_ ?_
  · intro m n' x h hI' ih
    obtain ⟨i, S, hm, hi, d, hS, hk, hr, hxs, hxd, l1, l17⟩ := hI'
    obtain ⟨g, rfl⟩ : ∃ g : Nat → Value, x = { tmps := #[g 0, .pointer (some ⟨b, 0, none⟩), g 2, g 3, g 4, g 5, g 6, g 7, g 8, g 9, g 10, g 11, g 12, g 13, g 14, g 15, g 16, .int .i64 (i : Int), g 18, g 19, g 20, g 21, g 22, g 23, g 24, g 25, g 26, g 27, g 28, g 29, g 30, g 31, g 32, g 33, g 34, g 35, g 36, g 37, g 38, g 39, g 40, g 41, g 42, g 43, g 44, g 45, g 46, g 47, g 48, g 49, g 50, g 51, g 52, g 53, g 54, g 55, g 56, g 57, g 58, g 59, g 60], defers := [] } := ⟨fun k => x.tmps.getD k undef, (act_eta hxs hxd).trans (by simp only [unrollL, Nat.reduceAdd, Nat.zero_add, l1, l17])⟩; clear hxs hxd l1 l17
    by_cases hlt : i < 9
    · have hlt' : ((i : Int) < 9) = True := by simp; omega
      have w3 := i64_succ (i := i) (by omega)
      have hw : (writeS (Dn i) i x7).2 = 0 := by have := List.all_eq_true.1 wk1 i (by simpa using hlt); simpa using this
      simp (maxDischargeDepth := 16) only [z04, z08, z09, z0a, z0b, z0d, z0e, z0p, z0q, z0s, z0t, z0v, z0w, z0x, z0z, z10, z11, z13, z1b, z1l, z2d, z2m, z3b, z3h, z3v, z3w, z49, z4e, z4f, z4g, z4h, z4i, z4j, z4k, z4l, z4p, z4q, z4r, z4s, z4u, z4v, z4z, z50, z51, z53, z5a, z72, z80, z81, z82, z83, evalC_block, Nat.reduceLeDiff, Nat.reduceAdd, ↓reduceIte, hasBx69, tBuildFx98x0, tBuildOkx98, tZerox98, hlt']
      refine ex_any (Al k _) (run_Write (N := N) (i := (i : Int)) (x := x7) J (by omega) d x7_flat) ?_
      rintro _ h2 ⟨rfl, st⟩
      obtain ⟨f1, f2⟩ := st.fresh hS hk
      simp (maxDischargeDepth := 16) only [z04, z08, z0a, z0c, z0d, z0e, z0h, z0k, z0p, z0q, z0s, z0t, z0v, z0w, z0z, z10, z13, z24, z2c, z3b, z4e, z4f, z4g, z4h, z4i, z5a, z5c, hw, w3]
      exact ih (m - 1) _ _ (by omega) ⟨i + 1, _, by omega, by omega, st.1, f1, f2, by have := st.2.2.1; omega, rfl, rfl, rfl, rfl⟩
    · have hlt' : ((i : Int) < 9) = False := by simp; omega
      obtain rfl : i = 9 := by omega
      simp (maxDischargeDepth := 16) only [z06, z08, z09, z0a, z0c, z0d, z0e, z0g, z0j, z0m, z0p, z0q, z0s, z0t, z0v, z0w, z0x, z0z, z10, z13, z1l, z2d, z3b, z3h, z4e, z4f, z4g, z4h, z4i, z4j, z4k, z4l, z4s, z4u, z4v, z5b, ↓reduceIte, hasBx37, hlt']
      refine ex_any (Al k _) (run_Pending (N := N) J (by omega) d) ?_
      rintro v h2 ⟨hk2, hr2, q, o, hq⟩
      obtain ⟨av, cv, rfl⟩ := o.form
      have hl : ((Dn 9).2.1.map (·.1)).length = 8 := by rw [List.length_map]; exact wk2
      have h88 : (((8 : Nat) : Int) = 8) = True := by simp
      simp (maxDischargeDepth := 16) only [z0q, z0r, z0s, z0t, z0v, z0w, z0x, z0z, z10, z13, z1l, z1p, z1r, z2c, z3b, z3h, z4e, z4f, z4g, z4h, z4i, z4j, z4k, z4l, z4m, z4n, z4o, z4s, z4u, z4v, z52, z5a, z5c, z5e, ↓reduceIte, yielded, hasBx44, tLenx95, hl, h88]
      refine ex_any (Al k _) (run_Crash (N := N) (p := nop) (ks := []) J (by omega) (d.keep hk2 hr2) (ownFr OwnC.nil (fun c h => by cases h)) (fun c hc => hc.elim)) ?_
      rintro _ h3 ⟨rfl, st3⟩
      obtain ⟨f1, f2⟩ := st3.fresh hS (hk.trans hk2)
      have r3 : h3.ro = k.ro := by have := st3.2.2.1; omega
      simp (maxDischargeDepth := 16) only [z04, z08, z09, z0a, z0c, z0d, z0e, z0p, z0q, z0r, z0s, z0t, z0v, z0w, z0x, z0z, z10, z12, z13, z1l, z1y, z2c, z3b, z3h, z4e, z4f, z4g, z4h, z4i, z4j, z4k, z4l, z4m, z4n, z4o, z4s, z4u, z4v, z52, z59, z5a, z5c, z5e, ↓reduceIte, yielded, hasBx46]
      have d3 : DiskAt _ h3 b En := st3.1
      refine ex_any (Al k _) (run_Read (N := N) (i := 0) J.Read J.act J.power J.burns J.Read1 J.held J.IndexFunc J.held1 (by omega) d3) ?_
      obtain ⟨w1, w2⟩ := wk3
      obtain ⟨w3, w4⟩ := wk4
      generalize hR0 : readS En 0 = R0 at *
      rintro _ h4 ⟨rfl, d4, c4, hf4⟩
      have st4 := Step.of d4 c4 (by have := f2.size; omega)
      obtain ⟨p1, p2⟩ := st4.fresh f1 f2
      have s4 := c4.1
      have r4 : h4.ro = k.ro := by have := c4.2.1; omega
      have r40 : (h4.ro ≤ h4.size) = True := by simp; have := p2.size; omega
      have l4 : R0.2.1.length = 64 := hf4.len
      have l4' : 64 ≤ R0.2.1.length := by omega
      have t4 : R0.2.1.take 64 = R0.2.1 := List.take_of_length_le (by omega)
      have sp4 : splice zeroB.toArray 0 R0.2.1 = R0.2.1.toArray := splice_full (by rw [l4]; rfl)
      simp (maxDischargeDepth := 16) only [z08, z09, z0d, z0e, z0p, z0q, z0s, z0t, z0u, z0v, z0w, z0x, z0z, z10, z11, z1a, z1f, z1g, z1l, z1w, z1x, z2o, z2t, z2y, z2z, z34, z3b, z3h, z46, z49, z4c, z4e, z4f, z4g, z4h, z4i, z4j, z4k, z4l, z4m, z4n, z4o, z4p, z4q, z4r, z4s, z4u, z4v, z4z, z53, z72, Nat.reduceAdd, ↓reduceIte, Hp.wr, hasBx46, tSizex98, tZerox98, w1, l4, r40, flat_all1 hf4]
      refine ex_ev (S := fun v h5 => v = .tuple #[.agg (readS R0.1 1).2.1.toArray, .int .i64 (readS R0.1 1).2.2] ∧ flatOk K98 (readS R0.1 1).2.1 ∧ Keeps k h5 ∧ h5.ro = k.ro ∧ h5.get h4.size = some (.cells R0.2.1.toArray true) ∧ h4.size < h5.size) (Al k _) (fun h5 hh5 => ?_) ?_
      · have s5 : h5.size = h4.size + 1 := by rw [hh5]; simp only [Hp.size_setB, Hp.size_push]
        have r5 : h5.ro = h4.ro := by rw [hh5]; simp only [Hp.ro_setB, Hp.ro_push]
        have g5 : h5.get h4.size = some (.cells R0.2.1.toArray true) := by rw [hh5, get_set_self]; exact congrArg (fun z => some (Blk.cells z true)) sp4
        have k5 : Keeps h4 h5 := by rw [hh5]; exact (by repeat (first | assumption | exact Keeps.refl _ | refine Keeps.push ?_ _ | refine Keeps.set ?_ (by first | omega | (simp only [Hp.size_push, Hp.size_setB]; omega)) _))
        refine (run_Read (N := N) (i := 1) J.Read J.act J.power J.burns J.Read1 J.held J.IndexFunc J.held1 (by omega) (st4.1.keep k5 r5)).mono ?_
        rintro v h6 ⟨rfl, d6, c6, hf6⟩
        have st6 := Step.of d6 c6 (by have := p2.size; omega)
        obtain ⟨-, q2⟩ := st6.fresh p1 (p2.trans k5)
        exact ⟨rfl, hf6, q2, by have := c6.2.1; omega, (c6.2.2 _ (by omega) (fun h => by have := (st4.1.own _ h).2; omega)).trans g5, by have := c6.1; omega⟩
      rintro _ h6 ⟨rfl, hf6, k6, r6, g6, m6⟩
      generalize hR1 : readS R0.1 1 = R1 at *
      have r60 : (h6.ro ≤ h6.size) = True := by simp; have := k6.size; omega
      have l6 : R1.2.1.length = 64 := hf6.len
      have l6' : 64 ≤ R1.2.1.length := by omega
      have t6 : R1.2.1.take 64 = R1.2.1 := List.take_of_length_le (by omega)
      have sp6 : splice zeroB.toArray 0 R1.2.1 = R1.2.1.toArray := splice_full (by rw [l6]; rfl)
      have sp64 : ∀ (cs : List Value), cs.length = 64 → ∀ l : List Value, l.length = 64 → splice l.toArray 0 cs = cs.toArray := fun cs h l hl => splice_full (by simp [h, hl])
      have z0 : ((0 : Int) ≤ 0) = True := by simp
      have z64 : ((0 : Int) < ((64 : Nat) : Int)) = True := by simp
      simp (maxDischargeDepth := 16) only [z05, z08, z09, z0d, z0e, z0o, z0p, z0q, z0r, z0s, z0t, z0u, z0v, z0w, z0z, z10, z11, z12, z13, z18, z1a, z1e, z1f, z1g, z1v, z1w, z1x, z1y, z1z, z2b, z2o, z2t, z2v, z2x, z2y, z2z, z33, z34, z35, z3b, z3c, z3f, z46, z49, z4c, z4e, z4f, z4g, z4h, z4i, z4m, z4n, z4o, z4p, z4q, z4r, z4z, z50, z51, z52, z53, z54, z5a, z5e, z64, z72, Nat.reduceAdd, ↓reduceIte, yielded, Hp.cell, Hp.wr, tArrx98, tPartx5, tSizex98, tZerox98, w2, w3, w4, l6, r60, flat_all1 hf6, g6, ne_f m6, ne_f0 m6, lt_t m6, lt_t0 m6, z0, z64, sp64, Int.toNat_zero, Nat.zero_mul]
      exact Al.done (k6.trans (by repeat (first | assumption | exact Keeps.refl _ | refine Keeps.push ?_ _ | refine Keeps.set ?_ (by first | omega | (simp only [Hp.size_push, Hp.size_setB]; omega)) _))) (by simp only [Hp.ro_setB, Hp.ro_push]; exact r6) rfl
  · omega
  · exact ⟨0, _, by omega, by omega, d1, fun c hc => hc.1, hk1, hr1, rfl, rfl, rfl, rfl⟩
end
end Go.Abs.B1
