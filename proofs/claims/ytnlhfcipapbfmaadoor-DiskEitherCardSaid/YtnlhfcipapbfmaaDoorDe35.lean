/- A disk behind deeds. -/
import Derived.Test.YtnlhfcipapbfmaaDoorDe32
namespace Go.Abs.B1d
open Go.Proofs
set_option maxRecDepth 10000
set_option maxHeartbeats 4000000
set_option linter.all false
section
variable {N : Nat} {k h : Hp} {S p : Nat → Prop} {b : Nat} {D : DV}
theorem run_played (hro : k.ro ≤ k.size) {v : Value} {l : List T42} (rl : R22.r false p k [v] l) (hp : ∀ c, p c → c < k.size) (hN : l.length + 200 < N) :
    Al k (fun k' u => ∃ b S D, u = .tuple #[.pointer (some ⟨b, 0, none⟩), .bool true] ∧ DiskAt S k' b D ∧ (∀ c, S c → k.size ≤ c) ∧ D.1.length = 14) (evalV Tryd.prog I0 N (.fn 7) #[v] k) := by
  obtain ⟨N, rfl⟩ : ∃ n, N = n + 1 := ⟨N - 1, by omega⟩
  obtain ⟨a, c, rfl, -, hl⟩ := slice_form rl
  unfold capOpen at hl
  have h0 : I0 7 = none := rfl
  rw [evalV_call (P := Tryd.prog) (intr := I0) (f := 7) (m := 28) (rs := #[.tmp 2, .tmp 3]) h0 Tryd.func7 rfl rfl rfl]
  simp (maxDischargeDepth := 16) only [z08, z09, z0d, z0e, z0p, z0q, z0s, z0t, z0w, z0x, z11, z1l, z3h, z4g, z4h, z4i, z4j, z4k, z4l, z4p, z4q, z4r, z4s, z4t, z4u, z4v, z4w, z4x, z4y, z53, Nat.reduceSub, ↓reduceIte, hasBx21]
  refine ex_any (Al k _) (run_New (n := 14) jDk (by omega) (by omega) (by decide) (by decide)) ?_
  rintro _ k1 ⟨b, rfl, hb, hk1, hr1, d1⟩
  have s1 := hk1.size
  simp (maxDischargeDepth := 16) only [z04, z08, z09, z0a, z0c, z0d, z0e, z0p, z0q, z0s, z0t, z0v, z0w, z0z, z10, z11, z13, z1a, z1p, z1r, z2c, z2t, z3b, z4e, z4f, z4g, z4h, z4i, z4m, z4n, z4o, z5a, z5c, evalC_block, tLenx22]
  refine loop_rule (Al k _) (fun m x h => ∃ (i : Nat) (D : DV) (S : Nat → Prop), m = l.length - i ∧ i ≤ l.length ∧ D.1.length = 14 ∧ DiskAt S h b D ∧ (∀ c, S c → k.size ≤ c) ∧ Keeps k h ∧ h.ro = k.ro ∧
    x.tmps.size = 28 ∧ x.defers = [] ∧ x.tmps.getD 4 undef = .pointer (some ⟨b, 0, none⟩) ∧ x.tmps.getD 14 undef = .slice a l.length c ∧ x.tmps.getD 15 undef = .int .i64 (l.length : Int) ∧ x.tmps.getD 16 undef = .int .i64 (i : Int)) ?_ _ l.length _ _ ?_ ?_
  · intro m n' x h hI' ih
    obtain ⟨i, D, S, hm, hi, hD, d, hS, hk, hr, hxs, hxd, l4, l14, l15, l16⟩ := hI'
    obtain ⟨g, rfl⟩ : ∃ g : Nat → Value, x = { tmps := #[g 0, g 1, g 2, g 3, .pointer (some ⟨b, 0, none⟩), g 5, g 6, g 7, g 8, g 9, g 10, g 11, g 12, g 13, .slice a l.length c, .int .i64 (l.length : Int), .int .i64 (i : Int), g 17, g 18, g 19, g 20, g 21, g 22, g 23, g 24, g 25, g 26, g 27], defers := [] } := ⟨fun k => x.tmps.getD k undef, (act_eta hxs hxd).trans (by simp only [unrollL, Nat.reduceAdd, Nat.zero_add, l4, l14, l15, l16])⟩; clear hxs hxd l4 l14 l15 l16
    have hs := hk.size
    have elem : ∀ i : Nat, i < l.length → ∃ (z : T42) (b2 off2 : Nat) (cells2 : Array Value) (ow2 : Bool) (w1 : Value), a = some ⟨b2, off2, none⟩ ∧ b2 < h.size ∧ h.get b2 = some (.cells cells2 ow2) ∧ off2 + (i * 5 + 5) ≤ cells2.size ∧ cells2.extract (off2 + i * 5) (off2 + (i * 5 + 5)) = #[.int .i64 z.1, .int .i64 z.2.1, .int .i64 z.2.2.1, .int .u8 z.2.2.2.1, w1] ∧ R42.r false p k [.int .i64 z.1, .int .i64 z.2.1, .int .i64 z.2.2.1, .int .u8 z.2.2.2.1, w1] z ∧ oneC w1 = true := fun i hlt => by
      obtain ⟨z, hz⟩ : ∃ z, l[i]? = some z := ⟨_, List.getElem?_eq_getElem hlt⟩
      obtain ⟨b2, off2, _, cells2, ow2, part2, ee, hb2, hg2, -, hp2, hle2, hex2, -⟩ := elem_at (s := 5) rl hz rfl (by decide)
      cases ee
      have hp20 := hp2
      obtain ⟨w1, rfl, e1, e2, e3, e4, e5⟩ := R42_inv hp2
      exact ⟨z, b2, off2, cells2, ow2, w1, rfl, by have := hp b2 hb2; omega, (hk.get b2 (hp b2 hb2)).trans hg2, hle2, hex2, hp20, (Rp.slice Rp.bool).rone e5 w1 (List.mem_singleton.2 rfl)⟩
    have rh0 : (h.ro ≤ h.size) = True := by simp; omega
    by_cases hlt : i < l.length
    · have hlt' := lt_cast hlt
      obtain ⟨q1, q2, q3⟩ := dec_meas hlt hm
      obtain ⟨z, b2, off2, cells2, ow2, w1, rfl, hbb2, hgb, hle2, hex2, hp20, ow⟩ := elem i hlt
      have hii : (0 ≤ (i : Int)) = True := by simp
      have w3 := i64_succ (i := i) (by omega)
      by_cases h60 : i = 60
      · subst h60
        have h60' : (((60 : Nat) : Int) = 60) = True := by simp
        simp (maxDischargeDepth := 16) only [z04, z05, z06, z08, z09, z0a, z0b, z0d, z0e, z0g, z0j, z0m, z0o, z0p, z0q, z0s, z0t, z0u, z0v, z0w, z0z, z10, z11, z13, z18, z1e, z1f, z1g, z1v, z1w, z1x, z1z, z2b, z2d, z2o, z2u, z2x, z2y, z2z, z34, z3a, z3b, z3d, z3f, z3p, z3v, z3w, z44, z45, z46, z49, z4c, z4e, z4f, z4g, z4h, z4i, z4p, z4q, z4r, z4z, z50, z51, z52, z53, z5a, z5f, z72, evalC_block, Nat.reduceEqDiff, Nat.reduceAdd, Nat.reduceMul, ↓reduceIte, Hp.row, Hp.wr, tElemx22, tPartx42, tSizex42, tZerox42, hlt', hii, hgb, ne_f hbb2, ne_f0 hbb2, lt_t hbb2, lt_t0 hbb2, hle2, hex2, Int.toNat_natCast, rh0, ow, h60']
        exact Al.done (hk.trans (by repeat (first | assumption | exact Keeps.refl _ | refine Keeps.push ?_ _ | refine Keeps.set ?_ (by first | omega | (simp only [Hp.size_push, Hp.size_setB]; omega)) _))) (by simp only [Hp.ro_setB, Hp.ro_push]; exact hr) ⟨b, S, D, rfl, d.keep (by repeat (first | assumption | exact Keeps.refl _ | refine Keeps.push ?_ _ | refine Keeps.set ?_ (by first | omega | (simp only [Hp.size_push, Hp.size_setB]; omega)) _)) (by simp only [Hp.ro_setB, Hp.ro_push]), hS, hD⟩
      · have h60' : ((i : Int) = 60) = False := by simp; omega
        simp (maxDischargeDepth := 16) only [z04, z08, z09, z0a, z0b, z0c, z0d, z0e, z0p, z0q, z0s, z0t, z0u, z0v, z0w, z0x, z0z, z10, z11, z13, z18, z1e, z1f, z1g, z1l, z1v, z1w, z1x, z1z, z2b, z2d, z2o, z2u, z2x, z2y, z2z, z33, z34, z3a, z3b, z3h, z3p, z3v, z3w, z3x, z3y, z3z, z41, z43, z44, z45, z46, z49, z4c, z4e, z4f, z4g, z4h, z4i, z4j, z4k, z4l, z4p, z4q, z4r, z4s, z4u, z4v, z4z, z50, z51, z53, z5a, z5b, z5f, z72, evalC_block, Nat.reduceAdd, Nat.reduceSub, ↓reduceIte, Hp.row, Hp.wr, hasBx11, tElemx22, tPartx42, tSizex42, tZerox42, hlt', hii, hgb, ne_f hbb2, ne_f0 hbb2, lt_t hbb2, lt_t0 hbb2, hle2, hex2, Int.toNat_natCast, rh0, ow, h60']
        refine ex_ev (S := fun v h2 => ∃ S2 : Nat → Prop, DiskAt S2 h2 b (deedS D z).1 ∧ (∀ c, S2 c → k.size ≤ c) ∧ Keeps k h2 ∧ h2.ro = k.ro) (Al k _) (fun h1 hh1 => ?_) ?_
        · have r1' : h1.ro = h.ro := by rw [hh1]; simp only [Hp.ro_setB, Hp.ro_push]
          have k1' : Keeps h h1 := by rw [hh1]; exact (by repeat (first | assumption | exact Keeps.refl _ | refine Keeps.push ?_ _ | refine Keeps.set ?_ (by first | omega | (simp only [Hp.size_push, Hp.size_setB]; omega)) _))
          have s1' := k1'.size
          refine (run_does (N := N) (p := p) jDk jLw (by omega) (d.keep k1' r1') (R42.mono hp20 (fun _ h => h) id ((hk.trans k1').fr hp)) (fun c hc => ⟨by have := hp c hc; omega, fun hn => by have := hS c hn; have := hp c hc; omega⟩)).mono ?_
          rintro v h2 ⟨rfl, st, -⟩
          obtain ⟨f1, f2⟩ := st.fresh hS (hk.trans k1')
          exact ⟨_, st.1, f1, f2, by have := st.2.2.1; omega⟩
        rintro u h2 ⟨S2, d2, hS2, hk2, hr2⟩
        simp (maxDischargeDepth := 16) only [z08, z0d, z0e, z0h, z0k, z0p, z0q, z0s, z0t, z0v, z0w, z0z, z10, z13, z24, z3b, z4e, z4f, z4g, z4h, z4i, w3]
        exact ih (m - 1) _ _ q1 ⟨i + 1, (deedS D z).1, S2, q2, q3, by rw [deedS_len]; exact hD, d2, hS2, hk2, hr2, rfl, rfl, rfl, rfl, rfl, rfl⟩
    · have hlt' := nlt_cast hlt
      simp (maxDischargeDepth := 16) only [z05, z06, z08, z09, z0a, z0c, z0d, z0e, z0g, z0j, z0m, z0o, z0p, z0q, z0s, z0t, z0v, z0w, z0z, z10, z11, z13, z2d, z3b, z3d, z3f, z4e, z4f, z4g, z4h, z4i, z4z, z52, z5b, ↓reduceIte, hlt']
      exact Al.done hk hr ⟨b, S, D, rfl, d, hS, hD⟩
  · omega
  · exact ⟨0, newS 14, _, by omega, by omega, rfl, d1, fun c hc => hc.1, hk1, hr1, rfl, rfl, rfl, rfl, rfl, rfl⟩
end
end Go.Abs.B1d
