/- The document's disk: New, All, Crash, Sync, Read. -/
import Derived.Test.YtnlhfcipapbfmaaDk18
namespace Go.Abs.B1
open Go.Proofs
set_option maxRecDepth 10000
set_option maxHeartbeats 4000000
set_option linter.all false
theorem tRowBl : tRow Try.prog 92 = some (1, 1, #[.bool false]) := tRowx92
abbrev MdAt (p : Nat → Prop) (k : Hp) (u : Value) (E : DV) : Prop := ∃ cs : List Value, u = .agg cs.toArray ∧ R113.r false p k cs E
section
variable {I : Intr} {N : Nat} {k : Hp} {S : Nat → Prop} {b : Nat} {D : DV} {p : Nat → Prop}
theorem run_rNew (J : IRf I) (hN : 0 < N) (hro : k.ro ≤ k.size) {n : Nat} (h2 : n ≤ 2048) :
    Al k (fun k' u => MdAt (fresh k k') k' u (newS n)) (evalV Try.prog I N (.fn 41) #[.int .i64 (n : Int)] k) := by
  obtain ⟨N, rfl⟩ : ∃ n, N = n + 1 := ⟨N - 1, by omega⟩
  have mk : ∀ h : Hp, aMakeSlice Try.prog 110 (.int .i64 (n : Int)) (.int .i64 (n : Int)) h = some (.slice (some ⟨h.size, 0, none⟩) n n, h.push (some (.cells (Builtin.zeroCells zeroB.toArray n) true))) := fun h => makeSlice_val tRowPl (by simp [zeroB]) (by omega) (by omega)
  have r0 : (k.ro ≤ k.size) = True := by simp [hro]
  rw [evalV_call (P := Try.prog) (intr := I) (f := 41) (m := 6) (rs := #[.cell 2 113]) J.New Try.func41 rfl rfl rfl]
  simp (maxDischargeDepth := 16) only [z05, z08, z09, z0d, z0e, z0o, z0p, z0q, z0s, z0t, z0u, z0v, z0w, z0z, z10, z1b, z1f, z1g, z1j, z1w, z1x, z2m, z2o, z2q, z2x, z2y, z2z, z33, z34, z38, z39, z3b, z3c, z3g, z3p, z3q, z3s, z3v, z3w, z3x, z3y, z3z, z41, z43, z44, z45, z46, z49, z4a, z4c, z4e, z4f, z4g, z4h, z4i, z4j, z4k, z4l, z4p, z4q, z4r, z4s, z4t, z4u, z4w, z4x, z4y, z4z, z50, z51, z53, z5f, z72, z80, z81, z82, z83, Nat.reduceLeDiff, Nat.reduceAdd, Nat.reduceSub, ↓reduceIte, Hp.row, Hp.wr, tBuildFx113x0, tBuildFx113x2, tBuildFx113x3, tBuildOkx113, tPartx113, tSizex113, tZerox113, mk, r0]
  have own : ∀ h' : Hp, k.size + 2 ≤ h'.size → h'.get (k.size + 1) = some (.cells (Builtin.zeroCells zeroB.toArray n) true) → OwnC R98 h' (.slice (some ⟨k.size + 1, 0, none⟩) n n) (some (k.size + 1)) (List.replicate n zeroB) := fun h' hs hg => by
    have hz : (Builtin.zeroCells zeroB.toArray n).size = n * 64 := by rw [zeroCells_size]; rfl
    refine .inr ⟨k.size + 1, n, _, by simp, rfl, .inr ⟨by unfold capOpen; omega, by rw [hz, show R98.len = 64 from rfl]; exact Nat.le_refl _⟩, by simp, by simp [capOpen]; omega, by omega, hg, fun w hw => ?_, by rw [hz, List.length_replicate, show R98.len = 64 from rfl]; exact Nat.le_refl _, ?_⟩
    · have := rows.flatE flatBlk (rows_zero (e := R98) (o := true) (p := nop) (k := h') (z := zeroB.toArray) (x := zeroB) ⟨rfl, flat_zeroB⟩ n) w (Array.mem_toList_iff.2 hw)
      exact this
    · rw [List.take_of_length_le (by rw [Array.length_toList, hz, List.length_replicate, show R98.len = 64 from rfl]; exact Nat.le_refl _)]
      exact rows_zero (e := R98) ⟨rfl, flat_zeroB⟩ n
  refine Al.done (by repeat (first | assumption | exact Keeps.refl _ | refine Keeps.push ?_ _ | refine Keeps.set ?_ (by first | omega | (simp only [Hp.size_push, Hp.size_setB]; omega)) _)) rfl ⟨_, rfl, R113_mk (x := newS n) (w1 := .slice (some ⟨k.size + 1, 0, none⟩) n n) (w2 := .slice none 0 0) ?_ ?_ m1ok m1ok ⟨by rw [i64_minmax.1]; simp [newS], by rw [i64_minmax.2]; simp [newS]⟩⟩
  · exact ownFr (own _ (by simp only [Hp.size_setB, Hp.size_push]; omega) (by rw [get_set_ne (by omega)]; simp (maxDischargeDepth := 16) only [z34, z4a, ↓reduceIte])) (fun c hc => by cases hc; exact ⟨by omega, by simp only [Hp.size_setB, Hp.size_push]; omega⟩)
  · exact ownFr OwnC.nil (fun c hc => by cases hc)
theorem run_rAll (J : IRf I) (hro : k.ro ≤ k.size) {n : Nat} (hn : n ≤ 1000) (hN : n + 5 < N) :
    Al k (fun k' u => ∃ q, OwnC Rp.bool k' u (some q) (List.replicate n true) ∧ k.size ≤ q ∧ q < k'.size) (evalV Try.prog I N (.fn 45) #[.int .i64 (n : Int)] k) := by
  obtain ⟨N, rfl⟩ : ∃ n, N = n + 1 := ⟨N - 1, by omega⟩
  have mk : ∀ h : Hp, aMakeSlice Try.prog 92 (.int .i64 (n : Int)) (.int .i64 (n : Int)) h = some (.slice (some ⟨h.size, 0, none⟩) n n, h.push (some (.cells (Builtin.zeroCells #[.bool false] n) true))) := fun h => makeSlice_val tRowBl (by simp) (by omega) (by omega)
  rw [evalV_call (P := Try.prog) (intr := I) (f := 45) (m := 17) (rs := #[.tmp 2]) J.All Try.func45 rfl rfl rfl]
  simp (maxDischargeDepth := 16) only [z08, z09, z0d, z0e, z0p, z0q, z0s, z0t, z0v, z0w, z0z, z10, z11, z1j, z1p, z1r, z3b, z4e, z4f, z4g, z4h, z4i, z4p, z4q, z4r, z4s, z4t, z4u, z4w, z4x, z4y, z53, evalC_block, Nat.reduceSub, tLenx92, mk]
  have hz : (Builtin.zeroCells #[Value.bool false] n).size = n * 1 := by rw [zeroCells_size]; rfl
  have o0 : OwnC Rp.bool (k.push (some (.cells (Builtin.zeroCells #[.bool false] n) true))) (.slice (some ⟨k.size, 0, none⟩) n n) (some k.size) (List.replicate n false) := by
    refine .inr ⟨k.size, n, _, by simp, rfl, .inr ⟨by unfold capOpen; omega, by rw [hz]; exact Nat.le_refl _⟩, by simp, by simp [capOpen]; omega, by simp, get_push_self, fun w hw => ?_, by rw [hz, List.length_replicate]; exact Nat.le_refl _, ?_⟩
    · exact rows.flatE flatE_bool (rows_zero (e := Rp.bool) (o := true) (p := nop) (k := k) (z := #[Value.bool false]) (x := false) rfl n) w (Array.mem_toList_iff.2 hw)
    · rw [List.take_of_length_le (by rw [Array.length_toList, hz, List.length_replicate]; exact Nat.le_refl _)]
      exact rows_zero (e := Rp.bool) rfl n
  refine loop_rule (Al k _) (fun m x h => ∃ (i : Nat) (bs : List Bool), m = n - i ∧ i ≤ n ∧ Keeps k h ∧ h.ro = k.ro ∧ k.size + 1 ≤ h.size ∧ bs.length = n ∧ OwnC Rp.bool h (.slice (some ⟨k.size, 0, none⟩) n n) (some k.size) bs ∧ (∀ j, j < i → bs[j]? = some true) ∧ x.tmps.size = 17 ∧ x.defers = [] ∧ x.tmps.getD 3 undef = .slice (some ⟨k.size, 0, none⟩) n n ∧ x.tmps.getD 8 undef = .int .i64 (n : Int) ∧ x.tmps.getD 9 undef = .int .i64 (i : Int)) ?_ _ n _ _ ?_ ?_
  · intro m n' x h hI' ih
    obtain ⟨i, bs, hm, hi, hk, hr, hsz, hbl, o, hall, hxs, hxd, l3, l8, l9⟩ := hI'
    obtain ⟨g, rfl⟩ : ∃ g : Nat → Value, x = { tmps := #[g 0, g 1, g 2, .slice (some ⟨k.size, 0, none⟩) n n, g 4, g 5, g 6, g 7, .int .i64 (n : Int), .int .i64 (i : Int), g 10, g 11, g 12, g 13, g 14, g 15, g 16], defers := [] } := ⟨fun k => x.tmps.getD k undef, (act_eta hxs hxd).trans (by simp only [unrollL, Nat.reduceAdd, Nat.zero_add, l3, l8, l9])⟩; clear hxs hxd l3 l8 l9
    by_cases hlt : i < n
    · have hlt' := lt_cast hlt
      obtain ⟨q1, q2, q3⟩ := dec_meas hlt hm
      have hii : (0 ≤ (i : Int)) = True := by simp
      have w3 := i64_succ (i := i) (by omega)
      obtain ⟨y, hy⟩ : ∃ y, bs[i]? = some y := ⟨_, List.getElem?_eq_getElem (by omega)⟩
      obtain ⟨cx, cells, hvx, gq, hle, hset⟩ := o.setIn hy (s := 1) (j := 0) (d := [.bool true]) (y := true) rfl (by simp) (fun c hc => by simp at hc; subst hc; exact flatB_bool) (by
        intro part hpl hpr
        have hd : part.drop (0 + 1) = [] := List.drop_eq_nil_of_le (by omega)
        have : part.take 0 ++ ([Value.bool true] ++ part.drop (0 + 1)) = [.bool true] := by rw [hd]; simp
        show _ = _
        exact this)
      have rq : (h.ro ≤ k.size) = True := by simp; omega
      have nq : k.size < h.size := by omega
      have hle' : i + 1 ≤ cells.size := by omega
      simp only [Nat.mul_one, Nat.add_zero] at hset
      simp (maxDischargeDepth := 16) only [z04, z08, z09, z0a, z0b, z0d, z0e, z0h, z0k, z0p, z0q, z0s, z0t, z0u, z0v, z0w, z0z, z10, z11, z13, z18, z1f, z1w, z1x, z1z, z24, z2d, z2n, z2u, z2y, z3b, z3q, z3v, z3w, z44, z45, z49, z4e, z4f, z4g, z4h, z4i, z4p, z4q, z4r, z50, z51, z53, z5a, z5f, z72, evalC_block, ↓reduceIte, Hp.wr, tElemx92, tSizex4, hlt', hii, Int.toNat_natCast, gq, ne_f nq, ne_f0 nq, lt_t nq, lt_t0 nq, rq, Nat.mul_one, hle', w3]
      refine ih (m - 1) _ _ q1 ⟨i + 1, bs.set i true, q2, q3, (by repeat (first | assumption | exact Keeps.refl _ | refine Keeps.push ?_ _ | refine Keeps.set ?_ (by first | omega | (simp only [Hp.size_push, Hp.size_setB]; omega)) _)), hr, by simpa using hsz, by simpa using hbl, hset _ (by simp) get_set_self, fun j hj => ?_, rfl, rfl, rfl, rfl, rfl⟩
      rw [List.getElem?_set]
      by_cases hji : i = j
      · subst hji; rw [if_pos rfl, if_pos (by omega)]
      · rw [if_neg hji]; exact hall j (by omega)
    · have hlt' := nlt_cast hlt
      simp (maxDischargeDepth := 16) only [z05, z06, z08, z09, z0a, z0c, z0d, z0e, z0g, z0j, z0m, z0o, z0p, z0q, z0s, z0t, z0v, z0z, z10, z11, z13, z2d, z3b, z3c, z3f, z4e, z4f, z4g, z4h, z4i, z4z, z5b, ↓reduceIte, hlt']
      have hbs : bs = List.replicate n true := by
        apply List.ext_getElem?
        intro j
        rw [List.getElem?_replicate]
        by_cases hj : j < n
        · rw [if_pos hj]; exact hall j (by omega)
        · rw [if_neg hj]; exact List.getElem?_eq_none (by omega)
      exact Al.done hk hr ⟨k.size, hbs ▸ o, Nat.le_refl _, by omega⟩
  · omega
  · exact ⟨0, List.replicate n false, by omega, by omega, (by repeat (first | assumption | exact Keeps.refl _ | refine Keeps.push ?_ _ | refine Keeps.set ?_ (by first | omega | (simp only [Hp.size_push, Hp.size_setB]; omega)) _)), rfl, by simp, by simp, o0, fun j hj => by omega, rfl, rfl, rfl, rfl, rfl⟩
theorem crash_vals {ks : List Bool} : (crashS D ks).1 = (downD D ks).1 := rfl
theorem run_rCrash (J : IRf I) (hN : 40 < N) (hro : k.ro ≤ k.size) {cs : List Value} (r : R113.r false p k cs D) (hp : ∀ c, p c → c < k.size) (wf : WF D) {v : Value} {ks : List Bool} (rk : (Rp.slice Rp.bool).r false p k [v] ks) :
    Al k (fun k' u => MdAt (fresh k k') k' u (crashS D ks)) (evalV Try.prog I N (.fn 81) #[.agg cs.toArray, v] k) := by
  obtain ⟨N, rfl⟩ : ∃ n, N = n + 1 := ⟨N - 1, by omega⟩
  have r00 := r
  obtain ⟨v1, v2, rfl, hr1, hr2, b1, b2, b3⟩ := R113_inv r
  have o1 := (R110).rone hr1 v1 (List.mem_singleton.2 rfl)
  have o2 := (R111).rone hr2 v2 (List.mem_singleton.2 rfl)
  have vo : ∀ u, vin p u → ∀ kept bits j, vokB (allow (k.size + j) kept bits) u = true := fun u hu kept bits j => vb_old (vin_mono (fun b hb => by have := hp b hb; omega) hu)
  have vo1 := vo v1 (R110.rvin hr1 v1 (List.mem_singleton.2 rfl))
  have vo2 := vo v2 (R111.rvin hr2 v2 (List.mem_singleton.2 rfl))
  have vo3 := vo v ((Rp.slice Rp.bool).rvin rk v (List.mem_singleton.2 rfl))
  have r0 : (k.ro ≤ k.size) = True := by simp [hro]
  have r1 : ∀ j, (k.ro ≤ k.size + j) = True := fun j => by simp; omega
  rw [evalV_call (P := Try.prog) (intr := I) (f := 81) (m := 12) (rs := #[.cell 4 113]) J.Crash Try.func81 rfl rfl rfl]
  simp (maxDischargeDepth := 16) only [z08, z09, z0d, z0e, z0p, z0q, z0s, z0t, z0v, z1g, z1h, z2o, z2z, z3b, z4a, z4e, z4g, z4h, z4i, z4p, z4q, z4r, z4s, z4t, z4u, z4w, z4x, z4y, z4z, z53, z7t, Nat.reduceAdd, Nat.reduceSub, tZerox113]
  rw [evalDraw_modes _ _ [(2, 0, 1), (0, 0, 2), (2, 3, 7), (0, 7, 15), (0, 0, 16), (2, 16, 48), (0, 63, 127), (4, 127, 255)] (by kernel_rfl)]
  simp (maxDischargeDepth := 16) only [z0t, z0v, z0x, z0z, z10, z1e, z1l, z1v, z2x, z34, z38, z39, z3a, z3b, z3h, z3x, z3y, z3z, z41, z43, z44, z45, z46, z4a, z4e, z4f, z4g, z4h, z4i, z4j, z4k, z4l, z4p, z4q, z4r, z4s, z4u, z4v, z4z, z53, z5f, z5j, z5l, z5u, z5x, z62, z63, z6d, z6g, z6t, z6v, z6x, z70, z71, Nat.reduceAdd, Nat.reduceSub, ↓reduceIte, keepR, Hp.row, hasBx108, tPartx113, vo1, vo2, vo3]
  refine al_kd2 (run_rDown (N := N) J (by omega) (by rw [view_ro, view_size]; exact Nat.le_refl _) (p := p) (R113.mono r00 (fun _ h => h) id ((view_keeps (by repeat (first | assumption | exact Keeps.refl _ | refine Keeps.push ?_ _ | refine Keeps.set ?_ (by first | omega | (simp only [Hp.size_push, Hp.size_setB]; omega)) _)) (by simp)).fr hp)) (fun c hc => by rw [view_size]; have := hp c hc; simp only [Hp.size_push]; omega) wf ((Rp.slice Rp.bool).mono rk (fun _ h => h) id ((view_keeps (by repeat (first | assumption | exact Keeps.refl _ | refine Keeps.push ?_ _ | refine Keeps.set ?_ (by first | omega | (simp only [Hp.size_push, Hp.size_setB]; omega)) _)) (by simp)).fr hp))) ?_ (by decide) ?_
  · rintro v k' hk' ⟨ds, rfl, hd⟩
    exact vin_agg fun c hc => vin_mono (fun b hb => .inr (by have h := hb.1; rw [view_size] at h; exact ⟨h, hb.2⟩)) (R113.rvin hd c hc)
  rintro _ k1 m1 hk1 ⟨ds, rfl, hd⟩ hm1 hm2 hm3 hm4
  have hs1 := hk1.size
  rw [view_size] at hs1
  simp only [Hp.size_push] at hs1
  have hf1 := Rp.fresh hd fun h => hm4 h _ (fun b hb => ⟨hb.2, .inr (by have h := hb.1; rw [view_size] at h; exact h)⟩)
  obtain ⟨u1, u2, rfl, hu1, hu2, -⟩ := R113_inv hf1
  obtain ⟨ua, uc, rfl, -, -⟩ := slice_form hu1
  have g0 := hm3 k.size (by first | omega | (simp only [Hp.size_push, Hp.size_setB, Hp.ro_push, Hp.ro_setB]; omega))
  have g1 := hm3 (k.size + 1) (by first | omega | (simp only [Hp.size_push, Hp.size_setB, Hp.ro_push, Hp.ro_setB]; omega))
  simp (maxDischargeDepth := 16) only [z34, z38, z39, z4a, z4c, ↓reduceIte] at g0 g1 hm2
  have p1 := (R110).rone hu1 _ (List.mem_singleton.2 rfl)
  have q0 : k.size < m1.size := by omega
  have q1 : k.size + 1 < m1.size := by omega
  have rm : (m1.ro ≤ k.size + 1) = True := by rw [hm2]; exact r1 1
  have hvu : vin (fun b => b < k.size + 2 ∨ k.size + 2 ≤ b ∧ b < k1.size) (.slice ua (downD D ks).1.length uc) := by
    refine vin_mono ?_ (R110.rvin hu1 _ (List.mem_singleton.2 rfl))
    intro b hb
    have h1 := hb.1
    have h2 := hb.2
    rw [view_size] at h1
    simp only [Hp.size_push] at h1
    exact .inr ⟨h1, h2⟩
  have vu1 := fun kept => vb_keepS (j := 2) (kept := kept) hvu
  simp (maxDischargeDepth := 16) only [z05, z0d, z0e, z0o, z0t, z0u, z0v, z0w, z0z, z16, z17, z1b, z1e, z1f, z1v, z1w, z1x, z2m, z2o, z2q, z2s, z2w, z2x, z2y, z31, z33, z3a, z3b, z3c, z3g, z3p, z3q, z3s, z3v, z3w, z3x, z3y, z3z, z41, z43, z44, z45, z46, z49, z4a, z4b, z4e, z4f, z4g, z4h, z4i, z4j, z4k, z4l, z4m, z4n, z4o, z4p, z4q, z4r, z4z, z50, z51, z53, z5a, z5f, z5j, z5k, z5l, z5t, z5u, z5x, z62, z63, z66, z67, z6a, z6d, z6g, z6h, z6j, z6t, z6v, z6x, z72, z74, z7c, z7d, z80, z81, z82, z83, z89, z8b, z8d, Nat.reduceLeDiff, Nat.reduceAdd, Nat.reduceSub, ↓reduceIte, Nat.reduceDiv, Nat.reduceMod, Nat.reducePow, keepR, Hp.cell, Hp.row, Hp.wr, tBuildFx113x0, tBuildFx113x2, tBuildFx113x3, tBuildFx113x5, tBuildOkx113, tFieldx113x0, tFieldAx113x5, tPartx3, tPartx113, tSizex113, tZerox113, vu1, g0, g1, ne_f q0, ne_f0 q0, lt_t q0, lt_t0 q0, ne_f q1, ne_f0 q1, lt_t q1, lt_t0 q1, p1, rm]
  refine Al.done ⟨by simp only [Hp.size_setB]; omega, fun c hc => ?_⟩ (by simp only [Hp.ro_setB]; exact hm2) ⟨_, rfl, R113_mk (x := crashS D ks) ?_ (ownFr OwnC.nil (fun c hc => by cases hc)) m1ok m1ok b3⟩
  · rw [get_set_ne (by omega), hm3 c (by simp only [Hp.size_push]; omega), get_push_ne (by simp only [Hp.size_push]; omega), get_push_ne (by omega)]
  · exact R110.mono hu1 (fun c hc => by have h := hc.1; rw [view_size] at h; simp only [Hp.size_push] at h; exact ⟨by omega, by simp only [Hp.size_setB]; have := hc.2; omega⟩) id (Fr.of fun c hc => get_set_ne (by have h := hc.1; rw [view_size] at h; simp only [Hp.size_push] at h; omega))
end
end Go.Abs.B1
