/- Does a disk tell what the document does? -/
import Derived.Test.YtnlhfcipapbfmaaDk25
namespace Go.Abs.B1
open Go.Proofs
set_option maxRecDepth 10000
set_option maxHeartbeats 4000000
set_option linter.all false
section
variable {I : Intr} {N : Nat} {k : Hp} {S : Nat → Prop} {b : Nat} {D : DV} {p : Nat → Prop}
theorem DiskAt.head_get (d : DiskAt S k b D) : ∃ pb bv, k.get b = some (.cells #[.slice (some ⟨pb, 0, none⟩) D.1.length D.1.length, bv, .int .i64 D.2.2.1, .int .i64 D.2.2.2.1, .bool D.2.2.2.2.1, .int .i64 D.2.2.2.2.2] true) ∧ b < k.size := by
  obtain ⟨pb, pc, bv, qb, g1, g2, a1, a2, a3, -⟩ := d
  exact ⟨pb, bv, g1, a3⟩
section
variable {pb n n' : Nat} {bv w1 w2 w3 w4 : Value} {ow : Bool}
theorem run_LenG (h1 : I 49 = none) (hN : 0 < N) (g1 : k.get b = some (.cells #[.slice (some ⟨pb, 0, none⟩) n n', bv, w1, w2, w3, w4] ow)) : Al k (fun k' v => v = .int .i64 (n : Int) ∧ k'.size = k.size) (evalV Try.prog I N (.fn 49) #[.pointer (some ⟨b, 0, none⟩)] k) := by
  obtain ⟨N, rfl⟩ : ∃ n, N = n + 1 := ⟨N - 1, by omega⟩
  rw [evalV_call (P := Try.prog) (intr := I) (f := 49) (m := 10) (rs := #[.tmp 2]) h1 Try.func49 rfl rfl rfl]
  simp (maxDischargeDepth := 16) only [z04, z05, z08, z09, z0a, z0c, z0d, z0e, z0o, z0p, z0q, z0s, z0t, z0v, z0w, z0z, z10, z11, z13, z16, z1c, z1e, z1p, z1r, z1v, z21, z2w, z2x, z3b, z3c, z3f, z4e, z4f, z4g, z4h, z4i, z4m, z4n, z4p, z4q, z4r, z4s, z4t, z4u, z4w, z4x, z4y, z4z, z50, z51, z53, z54, z7i, z7m, Nat.reduceSub, Hp.cell, tFieldAx149x0, tLenx110, tPartx110, tPtrx89, g1]
  exact Al.done (by repeat (first | assumption | exact Keeps.refl _ | refine Keeps.push ?_ _ | refine Keeps.set ?_ (by first | omega | (simp only [Hp.size_push, Hp.size_setB]; omega)) _)) rfl ⟨rfl, rfl⟩
theorem run_DeadG {d : Bool} (h1 : I 50 = none) (hN : 0 < N) (g1 : k.get b = some (.cells #[.slice (some ⟨pb, 0, none⟩) n n', bv, w1, w2, .bool d, w4] ow)) : Al k (fun k' v => v = .bool d ∧ k'.size = k.size) (evalV Try.prog I N (.fn 50) #[.pointer (some ⟨b, 0, none⟩)] k) := by
  obtain ⟨N, rfl⟩ : ∃ n, N = n + 1 := ⟨N - 1, by omega⟩
  rw [evalV_call (P := Try.prog) (intr := I) (f := 50) (m := 11) (rs := #[.tmp 2]) h1 Try.func50 rfl rfl rfl]
  simp (maxDischargeDepth := 16) only [z05, z08, z09, z0d, z0e, z0o, z0p, z0q, z0r, z0s, z0t, z0v, z0w, z0z, z10, z11, z12, z13, z16, z1c, z1e, z1v, z1y, z21, z2w, z2x, z3b, z3c, z3f, z4e, z4f, z4g, z4h, z4i, z4m, z4n, z4o, z4p, z4q, z4r, z4s, z4t, z4u, z4w, z4x, z4y, z4z, z50, z51, z52, z53, z5d, z5e, z7j, z7m, Nat.reduceSub, ↓reduceIte, yielded, Hp.cell, tFieldAx149x4, tPartx4, tPtrx89, g1]
  exact Al.done (by repeat (first | assumption | exact Keeps.refl _ | refine Keeps.push ?_ _ | refine Keeps.set ?_ (by first | omega | (simp only [Hp.size_push, Hp.size_setB]; omega)) _)) rfl ⟨rfl, rfl⟩
theorem run_OpsG {i : Int} (h1 : I 51 = none) (hN : 0 < N) (g1 : k.get b = some (.cells #[.slice (some ⟨pb, 0, none⟩) n n', bv, w1, w2, w3, .int .i64 i] ow)) : Al k (fun k' v => v = .int .i64 i ∧ k'.size = k.size) (evalV Try.prog I N (.fn 51) #[.pointer (some ⟨b, 0, none⟩)] k) := by
  obtain ⟨N, rfl⟩ : ∃ n, N = n + 1 := ⟨N - 1, by omega⟩
  rw [evalV_call (P := Try.prog) (intr := I) (f := 51) (m := 9) (rs := #[.tmp 2]) h1 Try.func51 rfl rfl rfl]
  simp (maxDischargeDepth := 16) only [z04, z05, z08, z09, z0a, z0c, z0d, z0e, z0o, z0p, z0q, z0s, z0t, z0v, z0w, z0z, z10, z11, z13, z16, z1c, z1e, z1v, z21, z2w, z2x, z3b, z3c, z3f, z4e, z4f, z4g, z4h, z4i, z4m, z4n, z4o, z4p, z4q, z4r, z4s, z4t, z4u, z4w, z4x, z4y, z4z, z50, z51, z53, z7i, z7m, Nat.reduceSub, Hp.cell, tFieldAx149x5, tPartx3, tPtrx89, g1]
  exact Al.done (by repeat (first | assumption | exact Keeps.refl _ | refine Keeps.push ?_ _ | refine Keeps.set ?_ (by first | omega | (simp only [Hp.size_push, Hp.size_setB]; omega)) _)) rfl ⟨rfl, rfl⟩
end
theorem run_isG (J : IDk I) (L : ILw I) (hN : 120 < N) (d : DiskAt S k b D) {f w : Int} {cm : List Value} (rm : R113.r false p k cm (D.1, D.2.1, f, w, D.2.2.2.2)) (hp : ∀ c, p c → c < k.size) :
    Al k (fun _ v => v = .bool true) (evalV Try.prog I N (.fn 43) #[.pointer (some ⟨b, 0, none⟩), .agg cm.toArray] k) := by
  obtain ⟨N, rfl⟩ : ∃ n, N = n + 1 := ⟨N - 1, by omega⟩
  have wf := d.wf
  have hro := d.ro
  have rm00 := rm
  obtain ⟨m1, m2, rfl, hr1, hr2, f1, f2, f3⟩ := R113_inv rm
  have om1 := (R110).rone hr1 m1 (List.mem_singleton.2 rfl)
  have om2 := (R111).rone hr2 m2 (List.mem_singleton.2 rfl)
  have hv1 := R113.rvin rm00 m1 (by simp)
  have hv2 := R113.rvin rm00 m2 (by simp)
  simp only [] at hr1 hr2
  obtain ⟨a1, c1, rfl, -, -⟩ := slice_form hr1
  obtain ⟨a2, c2, rfl, -, -⟩ := slice_form hr2
  rw [evalV_call (P := Try.prog) (intr := I) (f := 43) (m := 54) (rs := #[.tmp 4]) L.is Try.func43 rfl rfl rfl]
  simp (maxDischargeDepth := 16) only [z08, z09, z0d, z0e, z0p, z0q, z0s, z0t, z0v, z0w, z0x, z10, z11, z1h, z1l, z2o, z3b, z3h, z4e, z4f, z4g, z4h, z4i, z4j, z4k, z4l, z4p, z4q, z4r, z4s, z4t, z4u, z4v, z4w, z4x, z4y, z53, Nat.reduceAdd, Nat.reduceSub, ↓reduceIte, hasBx37]
  refine ex_any (Al k _) (run_Pending (N := N) J (by omega) (d.keep (k' := k.push (some (.cells (#[.slice a1 D.1.length c1, .slice a2 D.2.1.length c2, .int .i64 f, .int .i64 w, .bool D.2.2.2.2.1, .int .i64 D.2.2.2.2.2] : Array Value) true))) (by repeat (first | assumption | exact Keeps.refl _ | refine Keeps.push ?_ _ | refine Keeps.set ?_ (by first | omega | (simp only [Hp.size_push, Hp.size_setB]; omega)) _)) rfl)) ?_
  rintro v k1 ⟨hk1, hr1', q, o, hq⟩
  simp only [Hp.size_push, Hp.ro_push] at hr1' hq
  have s1 := hk1.size
  simp only [Hp.size_push] at s1
  have kk : Keeps k k1 := Keeps.trans (by repeat (first | assumption | exact Keeps.refl _ | refine Keeps.push ?_ _ | refine Keeps.set ?_ (by first | omega | (simp only [Hp.size_push, Hp.size_setB]; omega)) _)) hk1
  have g0 := hk1.get k.size (by simp only [Hp.size_push]; omega)
  simp (maxDischargeDepth := 16) only [z34, ↓reduceIte] at g0
  have n0 : k.size < k1.size := by omega
  have d1 := d.keep kk hr1'
  obtain ⟨pb, bv, gb, nb⟩ := d1.head_get
  obtain ⟨av, cv, rfl⟩ := o.form
  have hlen : (D.2.1.map (·.1)).length = D.2.1.length := List.length_map ..
  clear hk1
  have vk : ∀ c, vin (fun x => x < k1.size) c → ∀ kept bits, vokB (allow k1.size kept bits) c = true := fun c hc kept bits => vb_old hc
  have vk0 := vk _ (vin_mono (fun c hc => by subst hc; exact o.lt) ((Rp.slice RI).rvin o.rp _ (List.mem_singleton.2 rfl)))
  have vk1 := vk _ (vin_mono (fun c hc => by have := hp c hc; omega) hv1)
  have vk2 := vk _ (vin_mono (fun c hc => by have := hp c hc; omega) hv2)
  rw [hlen] at vk0
  simp (maxDischargeDepth := 16) only [z09, z0d, z0e, z0p, z0q, z0s, z0t, z0v, z11, z3b, z4e, z4f, z4g, z4h, z4i, z7t]
  rw [evalDraw_modes _ _ [(0, 0, 1), (0, 1, 3), (0, 0, 4), (1, 4, 12), (0, 12, 28), (0, 31, 63), (0, 63, 127), (0, 127, 255), (2, 255, 511), (0, 127, 639), (2, 639, 1663), (0, 1663, 3711), (0, 4095, 8191), (0, 8191, 16383), (0, 16383, 32767), (0, 32767, 65535), (2, 65535, 131071), (0, 32767, 163839), (2, 163839, 425983), (0, 524287, 1048575), (0, 1048575, 2097151), (0, 2097151, 4194303), (0, 4194303, 8388607), (2, 8388607, 16777215), (0, 4194303, 20971519), (2, 20971519, 54525951), (0, 67108863, 134217727), (0, 134217727, 268435455)] (by kernel_rfl)]
  simp (maxDischargeDepth := 16) only [z0t, z0v, z0x, z0z, z10, z13, z16, z1e, z1l, z1p, z1r, z1v, z2c, z2w, z2x, z3b, z3h, z46, z4e, z4f, z4g, z4h, z4i, z4j, z4k, z4l, z4m, z4n, z4o, z4s, z4u, z4v, z50, z51, z52, z53, z5a, z5c, z5e, z5j, z5n, z5u, z5w, z5y, z61, z62, z63, z6a, z6h, z6t, z6v, z6x, z70, z71, Nat.reduceAdd, ↓reduceIte, yielded, keepR, Hp.cell, hasBx49, tFieldAx113x1, tLenx95, tLenx111, tPartx111, g0, ne_f n0, ne_f0 n0, lt_t n0, lt_t0 n0, ne_f nb, ne_f0 nb, lt_t nb, lt_t0 nb, hlen, vk0, vk2]
  refine kd2Q (Al k _) (run_LenG J.Len (by omega) (by rw [view_nil]; exact gb)) (fun v k' _ h => by rw [h.1]; exact vin_flat flatB_int) (by decide) ?_
  rintro _ k3 m hk3 ⟨rfl, e3⟩ ms mr mg -
  rw [view_size] at e3
  rw [e3] at ms
  rw [e3]
  have al0 : ∀ kept bits, allow k1.size kept bits k.size = true := fun kept bits => allow_old n0
  have alb : ∀ kept bits, allow k1.size kept bits b = true := fun kept bits => allow_old nb
  have vg0 : ∀ bits, (m.view bits (keepS 8 k1.size k1.size [])).get k.size = _ := fun bits => ((view_keepS n0).trans (view_nil.trans (mg _ n0))).trans g0
  have vgb : ∀ bits, (m.view bits (keepS 8 k1.size k1.size [])).get b = _ := fun bits => ((view_keepS nb).trans (view_nil.trans (mg _ nb))).trans gb
  simp (maxDischargeDepth := 16) only [z0t, z0v, z0w, z0x, z0z, z10, z12, z13, z16, z1e, z1l, z1p, z1r, z1v, z1y, z2c, z2w, z2x, z3b, z3h, z46, z4e, z4f, z4g, z4h, z4i, z4j, z4k, z4l, z4m, z4n, z4o, z4s, z4u, z4v, z50, z51, z52, z54, z59, z5a, z5c, z5e, z5j, z5l, z5u, z5y, z61, z62, z63, z6a, z6t, z6x, Nat.reduceAdd, ↓reduceIte, yielded, keepR, Hp.cell, hasBx50, tFieldAx113x0, tLenx110, tPartx110, al0, alb, vg0, vk1]
  refine kd2Q (Al k _) (run_DeadG J.Dead (by omega) (vgb _)) (fun v k' _ h => by rw [h.1]; exact vin_flat (by simp [flatB])) (by decide) ?_
  rintro _ k4 l hk4 ⟨rfl, e4⟩ ls lr lg -
  rw [view_size] at e4
  rw [e4, ms] at ls ⊢
  rw [ms] at lg
  have wg0 : ∀ bits, (l.view bits (keepS 16 k1.size k1.size (keepS 8 k1.size k1.size []))).get k.size = _ := fun bits => ((view_keepS n0).trans ((view_keepS n0).trans (view_nil.trans ((lg _ n0).trans (mg _ n0))))).trans g0
  have wgb : ∀ bits, (l.view bits (keepS 16 k1.size k1.size (keepS 8 k1.size k1.size []))).get b = _ := fun bits => ((view_keepS nb).trans ((view_keepS nb).trans (view_nil.trans ((lg _ nb).trans (mg _ nb))))).trans gb
  simp (maxDischargeDepth := 16) only [z0t, z0v, z0w, z0x, z0z, z10, z12, z13, z16, z1e, z1l, z1v, z1y, z2w, z2x, z3b, z3h, z46, z4e, z4f, z4g, z4h, z4i, z4j, z4k, z4l, z4m, z4n, z4o, z4s, z4u, z4v, z50, z51, z52, z53, z59, z5a, z5c, z5e, z5j, z5l, z5u, z5y, z61, z63, z6a, z6k, z6t, z6x, z7h, Nat.reduceAdd, ↓reduceIte, yielded, keepR, Hp.cell, hasBx51, tBoolx4, tFieldAx113x4, tPartx4, al0, alb, wg0]
  refine kd2Q (Al k _) (run_OpsG J.Ops (by omega) (wgb _)) (fun v k' _ h => by rw [h.1]; exact vin_flat flatB_int) (by decide) ?_
  rintro _ k5 u hk5 ⟨rfl, e5⟩ us ur ug -
  rw [view_size] at e5
  rw [e5, ls] at us ⊢
  rw [ls] at ug
  have xg0 : ∀ bits, (u.view bits (keepS 23 k1.size k1.size (keepS 16 k1.size k1.size (keepS 8 k1.size k1.size [])))).get k.size = _ := fun bits => ((view_keepS n0).trans ((view_keepS n0).trans ((view_keepS n0).trans (view_nil.trans ((ug _ n0).trans ((lg _ n0).trans (mg _ n0))))))).trans g0
  have ug0 := (ug _ n0).trans ((lg _ n0).trans ((mg _ n0).trans g0))
  have n0u : k.size < u.size := by omega
  have k1u : Keeps k1 u := ⟨by omega, fun c hc => by rw [ug c hc, lg c hc, mg c hc]⟩
  have ru : u.ro = k.ro := by omega
  simp (maxDischargeDepth := 16) only [z04, z08, z09, z0a, z0c, z0d, z0e, z0p, z0q, z0s, z0t, z0v, z0w, z0z, z10, z12, z13, z16, z1e, z1p, z1r, z1v, z1y, z2c, z2w, z2x, z3b, z46, z4e, z4f, z4g, z4h, z4i, z4m, z4n, z4o, z50, z51, z52, z53, z59, z5a, z5c, z5e, z5j, z5l, z5t, z5u, z5y, z61, z62, z63, z6a, z6j, z6t, z6x, evalC_block, Nat.reduceAdd, ↓reduceIte, yielded, keepR, Hp.cell, tFieldAx113x1, tFieldAx113x5, tLenx111, tPartx3, tPartx111, al0, xg0, ug0, ne_f n0u, ne_f0 n0u, lt_t n0u, lt_t0 n0u]
  have hlr := wf.rows
  refine loop_rule (Al k _) (fun m x h => ∃ i : Nat, m = D.2.1.length - i ∧ i ≤ D.2.1.length ∧ Keeps k1 h ∧ h.ro = k.ro ∧
    x.tmps.size = 54 ∧ x.defers = [] ∧ x.tmps.getD 5 undef = .slice av D.2.1.length cv ∧ x.tmps.getD 39 undef = .slice a2 D.2.1.length c2 ∧ x.tmps.getD 40 undef = .int .i64 (D.2.1.length : Int) ∧ x.tmps.getD 41 undef = .int .i64 (i : Int)) ?_ _ D.2.1.length _ _ ?_ ?_
  · intro m n' x h hI' ih
    obtain ⟨i, hm, hi, hk, hr, hxs, hxd, l5, l39, l40, l41⟩ := hI'
    obtain ⟨g, rfl⟩ : ∃ g : Nat → Value, x = { tmps := #[g 0, g 1, g 2, g 3, g 4, .slice av D.2.1.length cv, g 6, g 7, g 8, g 9, g 10, g 11, g 12, g 13, g 14, g 15, g 16, g 17, g 18, g 19, g 20, g 21, g 22, g 23, g 24, g 25, g 26, g 27, g 28, g 29, g 30, g 31, g 32, g 33, g 34, g 35, g 36, g 37, g 38, .slice a2 D.2.1.length c2, .int .i64 (D.2.1.length : Int), .int .i64 (i : Int), g 42, g 43, g 44, g 45, g 46, g 47, g 48, g 49, g 50, g 51, g 52, g 53], defers := [] } := ⟨fun k => x.tmps.getD k undef, (act_eta hxs hxd).trans (by simp only [unrollL, Nat.reduceAdd, Nat.zero_add, l5, l39, l40, l41])⟩; clear hxs hxd l5 l39 l40 l41
    have hs := hk.size
    by_cases hlt : i < D.2.1.length
    · have hlt' := lt_cast hlt
      obtain ⟨q1, q2, q3⟩ := dec_meas hlt hm
      obtain ⟨z, hz⟩ : ∃ z, D.2.1[i]? = some z := ⟨_, List.getElem?_eq_getElem hlt⟩
      obtain ⟨b2, off2, _, cells2, ow2, part2, ee, hb2, hg2, -, hp2, hle2, hex2, -⟩ := elem_at (s := 65) hr2 hz rfl (by decide)
      cases ee
      obtain ⟨l', rfl, hx1, rfl, hfz⟩ := R167_inv hp2
      have hgb := (hk.get b2 (by have := hp b2 hb2; omega)).trans ((kk.get b2 (hp b2 hb2)).trans hg2)
      have hbb2 : b2 < h.size := by have := hp b2 hb2; omega
      obtain ⟨b3, off3, _, cells3, ow3, part3, ee3, hb3, hg3, -, hp3, hle3, hex3, hc3⟩ := elem_at (s := 1) o.rp (show (D.2.1.map (·.1))[i]? = some z.1 by rw [List.getElem?_map, hz]; rfl) rfl (by decide)
      cases ee3
      obtain ⟨rfl, -⟩ := Rp.int_inv hp3
      have hb3' : b3 < k1.size := by subst hb3; exact o.lt
      have hgb3 := (hk.get b3 hb3').trans hg3
      have hbb3 : b3 < h.size := by omega
      have h1 := hc3 0 (by omega)
      simp only [Nat.add_zero, Nat.mul_one, List.getElem?_cons_zero] at h1
      have hii : (0 ≤ (i : Int)) = True := by simp
      have w3 := i64_succ (i := i) (by omega)
      have hz64' : z.2.length = 64 := hfz.len
      have tkz : z.2.take 64 = z.2 := List.take_of_length_le (by omega)
      have rh : ∀ j, (h.ro ≤ h.size + j) = True := fun j => by simp; omega
      have rh0 : (h.ro ≤ h.size) = True := by simp; omega
      simp (maxDischargeDepth := 16) only [z04, z08, z09, z0a, z0b, z0d, z0e, z0p, z0q, z0s, z0t, z0u, z0v, z0z, z10, z11, z13, z18, z1e, z1f, z1g, z1v, z1w, z1x, z1z, z2d, z2o, z2u, z2x, z2y, z2z, z34, z3a, z3b, z3p, z3w, z44, z46, z49, z4c, z4e, z4f, z4g, z4h, z4i, z4p, z4q, z4r, z4t, z4u, z4z, z50, z51, z53, z5a, z5f, z72, z7t, evalC_block, Nat.reduceAdd, ↓reduceIte, Hp.row, Hp.wr, tElemx111, tPartx167, tSizex167, tZerox167, hlt', hii, hgb, ne_f hbb2, ne_f0 hbb2, lt_t hbb2, lt_t0 hbb2, hle2, hex2, Int.toNat_natCast, rh0, hz64', flat_all1 hfz, splice_tail]
      refine evalDraw_heap (Al k _) fun h2 hh2 => ?_
      have s2 : h2.size = h.size + 1 := by rw [hh2]; simp only [Hp.size_setB, Hp.size_push]
      have r2 : h2.ro = k.ro := by rw [hh2]; simp only [Hp.ro_setB, Hp.ro_push]; exact hr
      have k2 : Keeps h h2 := by rw [hh2]; exact (by repeat (first | assumption | exact Keeps.refl _ | refine Keeps.push ?_ _ | refine Keeps.set ?_ (by first | omega | (simp only [Hp.size_push, Hp.size_setB]; omega)) _))
      have y3 := (k2.get b3 hbb3).trans hgb3
      have y1 : h2.get h.size = some (.cells (Value.int .i64 z.1 :: z.2).toArray true) := by rw [hh2, get_set_self]
      have m3 : b3 < h2.size := by omega
      have m1 : h.size < h2.size := by omega
      clear hh2
      have a3 : ∀ kept bits, allow h2.size kept bits b3 = true := fun kept bits => allow_old m3
      have a1' : ∀ kept bits, allow h2.size kept bits h.size = true := fun kept bits => allow_old m1
      have va : ∀ kept bits, vokB (allow h2.size kept bits) (.slice (some ⟨b3, off3, none⟩) D.2.1.length cv) = true := fun kept bits => vb_old (vin_mono (fun c hc => by subst hc; have := o.lt; omega) ((Rp.slice RI).rvin o.rp _ (by rw [hlen]; exact List.mem_singleton.2 rfl)))
      rw [evalDraw_modes _ _ [(0, 0, 1), (0, 0, 2), (0, 3, 7), (2, 7, 15), (0, 0, 16), (2, 16, 48), (0, 63, 127)] (by kernel_rfl)]
      simp (maxDischargeDepth := 16) only [z04, z08, z0a, z0c, z0d, z0e, z0h, z0k, z0p, z0q, z0s, z0t, z0v, z0w, z0z, z10, z13, z16, z18, z1e, z1v, z1z, z24, z2c, z2u, z2w, z2x, z3b, z46, z4e, z4f, z4g, z4h, z4i, z4m, z4n, z50, z51, z53, z54, z5a, z5c, z5j, z5l, z5t, z5u, z5x, z62, z63, z6a, z6j, z6t, z6v, z6x, z70, z71, Nat.reduceAdd, ↓reduceIte, keepR, Hp.cell, tElemx95, tFieldAx167x0, tPartx3, hii, y3, y1, ne_f m3, ne_f0 m3, lt_t m3, lt_t0 m3, ne_f m1, ne_f0 m1, lt_t m1, lt_t0 m1, a3, a1', va, Int.toNat_natCast, Nat.mul_one, hlt', h1, w3]
      exact ih (m - 1) _ _ q1 ⟨i + 1, q2, q3, hk.trans k2, r2, rfl, rfl, rfl, rfl, rfl, rfl⟩
    · have hlt' := nlt_cast hlt
      simp (maxDischargeDepth := 16) only [z05, z06, z08, z09, z0a, z0c, z0d, z0e, z0g, z0j, z0m, z0o, z0p, z0q, z0s, z0t, z0v, z0w, z0z, z11, z13, z2d, z3b, z3c, z3f, z4e, z4f, z4g, z4h, z4i, z4z, z5b, ↓reduceIte, hlt']
      exact Al.done (kk.trans hk) hr rfl
  · omega
  · exact ⟨0, by omega, by omega, k1u, ru, rfl, rfl, rfl, rfl, rfl, rfl⟩
theorem run_is (J : IDk I) (L : ILw I) (hN : 120 < N) (d : DiskAt S k b D) {cm : List Value} (rm : R113.r false p k cm D) (hp : ∀ c, p c → c < k.size) :
    Al k (fun _ v => v = .bool true) (evalV Try.prog I N (.fn 43) #[.pointer (some ⟨b, 0, none⟩), .agg cm.toArray] k) := run_isG (f := D.2.2.1) (w := D.2.2.2.1) J L hN d rm hp
end
end Go.Abs.B1
