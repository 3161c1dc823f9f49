/- Ships: what is offered by the document. -/
import Derived.Test.YtnlhfcipapbfmaaSh17
namespace Go.Abs.B1
open Go.Proofs
set_option maxRecDepth 10000
set_option maxHeartbeats 4000000
set_option linter.all false
theorem right_62 {x : T36} (q0 : f15 x = 0) : x.2.1.1.1 ≤ 4611686018427387904 := by
  unfold f15 at q0
  by_cases h : 4611686018427387904 < x.2.1.1.1
  · rw [if_pos h] at q0; cases q0
  · omega
theorem last_eq {x : T36} (q0 : f15 x = 0) (hx : 0 ≤ x.2.1.1.1) (hl : x.2.2.length ≤ 1000) : f55 x = x.2.1.1.1 + x.2.2.length := by
  have := right_62 q0
  unfold f55
  rw [u64_in (x := (x.2.2.length : Int)) (by omega) (by omega), u64_in (by omega) (by omega)]
theorem f92_eq {x : T36} (q0 : f15 x = 0) (hx : 0 ≤ x.2.1.1.1) (hl : x.2.2.length ≤ 1000) : (f92 x).1 = f55 x := by
  unfold f92
  split
  · rw [last_eq q0 hx hl]; dsimp only; omega
  · rfl
theorem f61_eq {x : T36} (q0 : f15 x = 0) (hx : 0 ≤ x.2.1.1.1) (hl : x.2.2.length ≤ 1000) (i : Int) : f61 x i = f57 x i := by
  have h1 := last_eq q0 hx hl
  unfold f61 f57
  rw [f92_eq q0 hx hl]
  by_cases a : i = x.2.1.1.1
  · rw [if_pos a, if_neg (by omega), if_neg (by omega), if_pos a]
  · rw [if_neg a]
    by_cases b : i < x.2.1.1.1
    · rw [if_pos b, if_pos b]
    · rw [if_neg b, if_neg b, if_neg a]
theorem run20 {I : Intr} (hI : I 20 = none) (hI63 : I 63 = some g63) (hI19 : I 19 = some g19) (hI64 : I 64 = none) (hI65 : I 65 = none) (hI93 : I 93 = none) {N : Nat} {k : Hp} {cs : List Value} {x : T36} {p : Nat → Prop}
    (r : R36.r false p k cs x) (hp : ∀ b, p b → b < k.size) (hro : k.ro ≤ k.size) (hS : Small x) (hN : 60 < N) (q0 : f15 x = 0) (n : Int) (hn : IntKind.u64.min ≤ n ∧ n ≤ IntKind.u64.max) :
    Al k (fun k' v => ∃ ds, v = .agg ds.toArray ∧ R47.r true (fr k k') k' ds (offD x n)) (evalV Try.prog I N (.fn 20) #[.agg cs.toArray, .int .u64 n] k) := by
  obtain ⟨N, rfl⟩ : ∃ n, N = n + 1 := ⟨N - 1, by omega⟩
  have rr := R36.mono r hp id (Fr.refl _)
  have hbx := u64_bounds (show IntKind.u64.min ≤ x.2.1.1.1 ∧ x.2.1.1.1 ≤ IntKind.u64.max by obtain ⟨_, _, _, _, h, _⟩ := R36_inv r; exact h)
  have e92 := f92_eq q0 hbx.1 (by have := hS.ents; omega)
  have e61 := f61_eq q0 hbx.1 (by have := hS.ents; omega)
  have c63 := call_rdk (P := Try.prog) (A := A36) (I := I) (f := 63) (spec := fun x => vAt (f92 x.1).1 (f92 x.1).2) hI63 N (show A36.r (· < k.size) k [_] (x, ()) from ⟨_, _, rfl, rr, rfl⟩) (by omega)
  simp only [e92] at c63
  have r00 := r
  obtain ⟨v1, v2, rfl, b1, b2, b3, hv1, b4, b5, b6, b7, b8, b9, hv2⟩ := R36_inv r
  obtain ⟨oa, ca, rfl, -, hla⟩ := slice_form hv1
  obtain ⟨ob, cb, rfl, -, hlb⟩ := slice_form hv2
  rw [evalV_call (P := Try.prog) (intr := I) (f := 20) (m := 46) (rs := #[.cell 4 47]) hI Try.func20 rfl rfl rfl]
  by_cases q1 : offM x n < x.2.1.1.1
  · have hof : offD x n = (3, 0, 0, 0, (0, 0), [], 0, false, 0, 0, x.2.1, 0, [], 0) := by unfold offD; rw [if_pos q1]
    rw [hof]
    have q1' := q1
    unfold offM at q1'
    simp (maxDischargeDepth := 16) only [z08, z09, z0a, z0b, z0d, z0e, z0p, z0q, z0s, z0t, z0v, z0x, z0z, z10, z11, z13, z16, z17, z1e, z1g, z1h, z1l, z1u, z1v, z2d, z2l, z2o, z2s, z2w, z2x, z2z, z31, z34, z38, z39, z3b, z3h, z3x, z3y, z3z, z40, z41, z42, z43, z46, z4a, z4e, z4f, z4g, z4h, z4i, z4j, z4k, z4l, z4m, z4n, z4o, z4p, z4q, z4r, z4s, z4t, z4u, z4v, z4w, z4x, z4y, z4z, z50, z51, z53, z54, z5a, z7v, z7w, Nat.reduceLeDiff, Nat.reduceAdd, Nat.reduceSub, ↓reduceIte, Hp.cell, Hp.row, hasBx63, hasBx64, tFieldx24x0, tFieldAx24x0, tFieldAx33x0, tFieldAx36x1, tPartx22, tPartx33, tPartx36, tZerox47, ro_le hro, c63, q1']
    refine al_kops (run64 hI64 (by omega) (o := false) (p := p) (R33.mono (R33_mk (x := x.2.1) b2 b3 hv1 b4 b5 b6 b7 b8 b9) (fun _ h => h) id (Keeps.fr (h := k) (by repeat (first | assumption | exact Keeps.refl _ | refine Keeps.push ?_ _ | refine Keeps.set ?_ (by first | omega | (simp only [Hp.size_push, Hp.size_setB]; omega)) _)) hp)) (fun b hb => by have := hp b hb; simp only [Hp.size_push, Hp.size_setB]; omega) (by simp only [Hp.size_push, Hp.size_setB, Hp.ro_push, Hp.ro_setB]; omega) (by have := hS.routes; omega)) ?_
    rintro w k2 hk2 hr2 ⟨ds, rfl, hd⟩
    obtain ⟨w1, rfl, -, -, hw1, -⟩ := R33_inv hd
    obtain ⟨oz, cz, rfl, -⟩ := slice_form hw1
    have hkk : Keeps k k2 := Keeps.trans (by repeat (first | assumption | exact Keeps.refl _ | refine Keeps.push ?_ _ | refine Keeps.set ?_ (by first | omega | (simp only [Hp.size_push, Hp.size_setB]; omega)) _)) hk2
    have g1 := hk2.get (k.size + 1) (by first | omega | (simp only [Hp.size_push, Hp.size_setB, Hp.ro_push, Hp.ro_setB]; omega))
    simp (maxDischargeDepth := 16) only [z34, z4a, z4c, ↓reduceIte] at g1 hr2
    have hs := hk2.size
    simp only [Hp.size_push, Hp.size_setB] at hs
    have h1 : ∀ j, (k2.ro ≤ k.size + j) = True := fun j => by rw [hr2]; exact ro_le hro
    simp (maxDischargeDepth := 16) only [z05, z0d, z0e, z0f, z0o, z0p, z0q, z0s, z0t, z0u, z0v, z0w, z0z, z1b, z1f, z1w, z1x, z2m, z2o, z2x, z2y, z33, z3b, z3c, z3g, z3p, z3q, z3s, z3v, z3w, z3x, z3y, z3z, z41, z43, z44, z45, z46, z49, z4e, z4f, z4g, z4h, z4i, z4j, z4k, z4l, z4p, z4q, z4r, z4z, z50, z51, z53, z5f, z72, z80, z81, z82, z83, Nat.reduceLeDiff, Nat.reduceAdd, Nat.reduceSub, ↓reduceIte, Hp.row, Hp.wr, tBuildFx47x0, tBuildFx47x10, tBuildOkx47, tPartx47, tSizex47, tZerox47, g1, h1]
    have hb2 : ∀ b, fr ((k.push (some (.cells #[] true))).push none) k2 b → k.size + 2 ≤ b := fun b h => by have := h.1; simp only [Hp.size_push] at this; omega
    refine Al.done (by repeat (first | assumption | exact Keeps.refl _ | refine Keeps.push ?_ _ | refine Keeps.set ?_ (by first | omega | (simp only [Hp.size_push, Hp.size_setB]; omega)) _)) hr2 ⟨_, rfl, R47_mk (x := (3, 0, 0, 0, (0, 0), [], 0, false, 0, 0, x.2.1, 0, [], 0)) i3 i0 i0 u0 u0 u0 nilR u0 u0 u0 b2 b3 ((Rp.slice R61).mono hw1 (fun b hb => ⟨by have h := hb.1; simp only [Hp.size_push, Hp.size_setB] at h; omega, by simp only [Hp.size_setB]; exact hb.2⟩) id (Fr.of fun b hb => by have h := hb.1; simp only [Hp.size_push, Hp.size_setB] at h; rw [get_set_ne (by omega)])) b4 b5 b6 b7 b8 b9 w0 nilR i0⟩
  · have hof : offD x n = (1, 0, 0, 0, ((f57 x (offM x n)).1, (f57 x (offM x n)).2.1), (x.2.2.drop (offM x n - x.2.1.1.1).toNat).take 8, 0, false, 0, 0, ((0, 0), [], ((0, 0), (0, 0), (0, 0))), 0, [], 0) := by unfold offD; rw [if_neg q1]
    rw [hof]
    have hu := u64_bounds hn
    have hx := u64_bounds b2
    have hx62 : x.2.1.1.1 ≤ 4611686018427387904 := by
      unfold f15 at q0
      by_cases h : 4611686018427387904 < x.2.1.1.1
      · rw [if_pos h] at q0; cases q0
      · omega
    have hlen := hS.ents
    have h55 : f55 x = x.2.1.1.1 + x.2.2.length := by
      unfold f55
      rw [u64_in (x := (x.2.2.length : Int)) (by omega) (by omega), u64_in (by omega) (by omega)]
    obtain ⟨mm, hmm⟩ : ∃ mm, mm = offM x n := ⟨_, rfl⟩
    have hm1 : min n (f55 x) = mm := hmm.symm
    rw [← hmm] at q1 ⊢
    have hmb : 0 ≤ mm ∧ mm < 18446744073709551616 := by unfold offM at hmm; omega
    have hmx : mm ≤ x.2.1.1.1 + x.2.2.length := by unfold offM at hmm; omega
    have c19 := call_rdk (P := Try.prog) (A := A36i) (I := I) (f := 19) (spec := fun x => .tuple #[vAt (f61 x.1 x.2.1).1 (f61 x.1 x.2.1).2.1, .bool (f61 x.1 x.2.1).2.2]) hI19 N (show A36i.r (· < k.size) k [_, _] (x, mm, ()) from ⟨_, _, rfl, rr, _, _, rfl, ⟨rfl, by constructor <;> simp [IntKind.min, IntKind.max, IntKind.bits, IntKind.signed] <;> omega⟩, rfl⟩) (by omega)
    simp only [e61] at c19
    obtain ⟨j, hj⟩ : ∃ j : Nat, (j : Int) = mm - x.2.1.1.1 := ⟨(mm - x.2.1.1.1).toNat, by omega⟩
    have hw : IntKind.u64.wrap (mm - x.2.1.1.1) = (j : Int) := by rw [u64_in] <;> omega
    have hjt : (mm - x.2.1.1.1).toNat = j := by omega
    rw [hjt]
    simp (maxDischargeDepth := 16) only [z04, z08, z09, z0a, z0c, z0d, z0e, z0p, z0q, z0s, z0t, z0u, z0v, z0x, z0z, z10, z11, z13, z16, z17, z1a, z1e, z1f, z1g, z1h, z1k, z1l, z1u, z1v, z1w, z1x, z25, z2d, z2l, z2o, z2s, z2t, z2w, z2x, z2y, z2z, z31, z34, z35, z38, z39, z3a, z3b, z3h, z3p, z3v, z3w, z3x, z3y, z3z, z41, z43, z44, z45, z46, z49, z4a, z4c, z4e, z4f, z4g, z4h, z4i, z4j, z4k, z4l, z4m, z4n, z4o, z4p, z4q, z4r, z4s, z4t, z4u, z4v, z4w, z4x, z4y, z4z, z50, z51, z53, z54, z5b, z5f, z72, z7v, z7w, z87, Nat.reduceEqDiff, Nat.reduceAdd, Nat.reduceSub, ↓reduceIte, Hp.cell, Hp.row, Hp.wr, hasBx19, hasBx63, tFieldx24x0, tFieldAx24x0, tFieldAx33x0, tFieldAx36x1, tFieldAx36x2, tPartx22, tPartx34, tPartx36, tSizex24, tZerox24, tZerox47, ro_le hro, hro, c63, hm1, q1, c19, hw]
    refine ex_kops (cut_ex (e := R85) (o := false) (p := p) (l := j) (hh := x.2.2.length) (R34.mono hv2 (fun _ h => h) id (Keeps.fr (h := k) (by repeat (first | assumption | exact Keeps.refl _ | refine Keeps.push ?_ _ | refine Keeps.set ?_ (by first | omega | (simp only [Hp.size_push, Hp.size_setB]; omega)) _)) hp)) tElemx34 (by decide) ⟨_, rfl⟩ rfl (by omega) (Nat.le_refl _)) ?_
    rintro v3 k3 ⟨hk3, hr3, hcase, hrep3⟩
    rw [List.take_length] at hrep3
    obtain ⟨o3, c3, rfl, -, hl3⟩ := slice_form hrep3
    have hkk3 : Keeps k k3 := Keeps.trans (by repeat (first | assumption | exact Keeps.refl _ | refine Keeps.push ?_ _ | refine Keeps.set ?_ (by first | omega | (simp only [Hp.size_push, Hp.size_setB]; omega)) _)) hk3
    have g1 := hk3.get (k.size + 1) (by first | omega | (simp only [Hp.size_push, Hp.size_setB, Hp.ro_push, Hp.ro_setB]; omega))
    have g3 := hk3.get (k.size + 2) (by first | omega | (simp only [Hp.size_push, Hp.size_setB, Hp.ro_push, Hp.ro_setB]; omega))
    simp (maxDischargeDepth := 16) only [z33, z34, z35, z36, z3a, z4a, z4c, z4d, Nat.reduceEqDiff, Nat.reduceAdd, ↓reduceIte] at g1 g3 hr3
    have hs3 := hk3.size
    simp only [Hp.size_push, Hp.size_setB] at hs3
    have hr3' := (Rp.slice R85).mono hrep3 (p' := (· < k3.size)) (fun b hb => by
      rcases hb with hb | hb
      · have := hp b hb; omega
      · exact hb.2) id (Fr.refl _)
    have vo3 := fun kept bits => vb_old (s0 := k3.size) (kept := kept) (bits := bits) ((Rp.slice R85).rvin hr3' _ (List.mem_singleton.2 rfl))
    simp (maxDischargeDepth := 16) only [z09, z0d, z0e, z0p, z0q, z0s, z0t, z0v, z11, z3b, z4e, z4f, z4g, z4h, z4i, z7t]
    rw [evalDraw_modes _ _ [(2, 0, 1), (0, 0, 2), (0, 0, 4), (0, 4, 12), (0, 12, 28), (2, 30, 62), (2, 62, 126), (0, 127, 255), (1, 255, 511)] (by kernel_rfl)]
    have p1 : k.size + 1 < k3.size := by omega
    have p2 : k.size + 2 < k3.size := by omega
    have hdl : (x.2.2.drop j).length ≤ 41 := by rw [List.length_drop]; omega
    obtain ⟨m8, hm8, hm82⟩ : ∃ m8 : Nat, min ((x.2.2.drop j).length : Int) 8 = (m8 : Int) ∧ m8 = min (x.2.2.drop j).length 8 := ⟨min (x.2.2.drop j).length 8, by omega, rfl⟩
    obtain ⟨hc1, hc2⟩ := cut_rp (P := Try.prog) (t := 34) (e := R85) (lov := none) (hiv := some (.int .i64 (m8 : Int))) (l := 0) (hh := m8) (h := k3.view 30 []) ((Rp.slice R85).mono hr3' (fun _ h => h) id (Fr.of fun b hb => view_nil)) tElemx34 (by decide) rfl ⟨_, rfl⟩ (by omega) (by omega) (.inl rfl)
    rw [show R85.len = 4 from rfl] at hc1 hc2
    have vo4 := fun kept bits => vb_old (s0 := k3.size) (kept := kept) (bits := bits) ((Rp.slice R85).rvin hc2 _ (List.mem_singleton.2 rfl))
    simp (maxDischargeDepth := 16) only [z0t, z0v, z0w, z0x, z0z, z10, z1e, z1k, z1l, z1p, z1r, z1u, z1v, z2l, z2x, z3b, z3h, z3x, z3y, z3z, z41, z43, z44, z45, z46, z4e, z4f, z4g, z4h, z4i, z4j, z4k, z4l, z4p, z4q, z4r, z4s, z4u, z4v, z4z, z53, z5f, z5j, z5l, z5u, z5x, z62, z6d, z6g, z6t, z6v, z6x, z70, z71, z87, Nat.reduceAdd, Nat.reduceSub, ↓reduceIte, keepR, Hp.row, hasBx65, tLenx34, tPartx24, g3, hm8, vo3, hc1, vo4]
    refine al_kd2 (run65 hI65 hI93 (o0 := false) (p := (· < k3.size)) ((Rp.slice R85).mono hc2 (fun _ h => h) id (Fr.of fun b hb => by simp only [view_nil])) (fun b hb => by rw [view_size]; exact hb) (by rw [view_ro, view_size]; exact Nat.le_refl _) (by simp only [List.drop_zero, List.length_take]; omega) (by simp only [List.drop_zero, List.length_take]; omega) (fun e he => by have := hS.ups e (List.mem_of_mem_drop (List.mem_of_mem_take (by simpa using he))); omega)) ?_ (by decide) ?_
    · intro v k' hk' ha
      exact vin_mono (fun b hb => .inr (by have h := hb.1; rw [view_size] at h; exact ⟨h, hb.2⟩)) ((Rp.slice R85).rvin ha.rp v (by simp))
    rintro v k4 m4 hk4 ha hn1 hn2 hn3 hn4
    have hv := ha.rp
    rw [List.drop_zero] at hv
    obtain ⟨o4, c4, rfl, -⟩ := slice_form hv
    have hs4 := hk4.size
    rw [view_size] at hs4
    have f4 := Rp.fresh1 hv fun h => hn4 h _ (fun b hb => ⟨hb.2, .inr (by have h := hb.1; rw [view_size] at h; exact h)⟩)
    have gn1 : m4.get (k.size + 1) = _ := (hn3 (k.size + 1) (by omega)).trans g1
    have hkm4 : Keeps k m4 := keeps_of hkk3 (by omega) hn3
    have p3 : ∀ j, (m4.ro ≤ k.size + j) = True := fun j => by rw [hn2, hr3]; exact ro_le hro
    have q3 : (m4.size ≤ k.size + 1) = False := by simp; omega
    have al6 : ∀ bits, decide (bits / 2 ^ 6 % 2 = 1) = true → vokB (allow k3.size (keepS 6 k3.size k4.size []) bits) (.slice o4 (List.take m8 (x.2.2.drop j)).length c4) = true := fun bits hb => vin_p ((Rp.slice R85).rvin hv _ (List.mem_singleton.2 rfl)) fun b hb' => allow_own (by have h := hb'.1; rw [view_size] at h; exact h) hb'.2 (by rw [tb]; exact hb)
    simp (maxDischargeDepth := 16) only [z05, z0d, z0e, z0o, z0t, z0u, z0v, z0w, z0z, z1b, z1f, z1w, z1x, z2m, z2o, z2q, z2x, z2y, z33, z3b, z3c, z3g, z3p, z3q, z3s, z3v, z3w, z3x, z3y, z3z, z41, z43, z44, z45, z46, z48, z49, z4b, z4e, z4f, z4g, z4h, z4i, z4j, z4k, z4l, z4p, z4q, z4r, z4z, z50, z51, z53, z5a, z5f, z5j, z5k, z5m, z5o, z5t, z5u, z5w, z62, z63, z66, z67, z6d, z6g, z6u, z6v, z72, z80, z81, z82, z83, z89, Nat.reduceLeDiff, Nat.reduceAdd, Nat.reduceSub, ↓reduceIte, Nat.reduceDiv, Nat.reduceMod, Nat.reducePow, keepR, Hp.row, Hp.wr, tBuildFx47x0, tBuildFx47x4, tBuildFx47x5, tBuildOkx47, tPartx47, tSizex47, tZerox47, gn1, p1, al6, p3, q3]
    have hmi : IntKind.u64.min ≤ mm ∧ mm ≤ IntKind.u64.max := by constructor <;> simp [IntKind.min, IntKind.max, IntKind.bits, IntKind.signed] <;> omega
    have hfb := f57_b r00 hmi
    have h8 : (x.2.2.drop j).take 8 = (x.2.2.drop j).take m8 := by rw [hm82, Nat.min_comm, ← List.take_eq_take_min]
    rw [h8]
    have hro4 : m4.ro = k.ro := by rw [hn2, hr3]
    refine Al.done (by repeat (first | assumption | exact Keeps.refl _ | refine Keeps.push ?_ _ | refine Keeps.set ?_ (by first | omega | (simp only [Hp.size_push, Hp.size_setB]; omega)) _)) hro4 ?_
    exact ⟨_, rfl, R47_mk (x := (1, 0, 0, 0, ((f57 x mm).1, (f57 x mm).2.1), (x.2.2.drop j).take m8, 0, false, 0, 0, ((0, 0), [], ((0, 0), (0, 0), (0, 0))), 0, [], 0)) i1 i0 i0 u0 hfb.1 hfb.2 ((Rp.slice R85).mono f4 (fun b hb => ⟨by have h := hb.1; rw [view_size] at h; omega, by simp only [Hp.size_setB]; have := hb.2; omega⟩) id (Fr.of fun b hb => by have h := hb.1; rw [view_size] at h; rw [get_set_ne (by omega)])) u0 u0 u0 u0 u0 nilR w0 u0 w0 u0 w0 u0 w0 nilR i0⟩
end Go.Abs.B1
