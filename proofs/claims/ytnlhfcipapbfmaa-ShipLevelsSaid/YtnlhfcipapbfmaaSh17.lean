/- Ships: what is offered. -/
import Derived.Test.YtnlhfcipapbfmaaSq0
import Derived.Test.YtnlhfcipapbfmaaAbsE
namespace Go.Abs.B1
open Go.Proofs
set_option maxRecDepth 10000
set_option maxHeartbeats 4000000
set_option linter.all false
theorem run16 {I : Intr} (hI : I 16 = none) (hI15 : I 15 = some g15) (hI55 : I 55 = some g55) (hI57 : I 57 = some g57) (hI56 : I 56 = none) (hI58 : I 58 = none) (hI77 : I 77 = none) (hI89 : I 89 = none) {N : Nat} {k : Hp} {cs : List Value} {x : T36} {p : Nat → Prop}
    (r : R36.r false p k cs x) (hp : ∀ b, p b → b < k.size) (hro : k.ro ≤ k.size) (hS : Small x) (hN : 60 < N) (n : Int) (hn : IntKind.u64.min ≤ n ∧ n ≤ IntKind.u64.max) :
    Al k (fun k' v => ∃ ds, v = .tuple #[.agg ds.toArray, .int .i64 (f15 x)] ∧ R47.r true (fr k k') k' ds (if f15 x = 0 then offD x n else zM)) (evalV Try.prog I N (.fn 16) #[.agg cs.toArray, .int .u64 n] k) := by
  obtain ⟨N, rfl⟩ : ∃ n, N = n + 1 := ⟨N - 1, by omega⟩
  have rr := R36.mono r hp id (Fr.refl _)
  have c15 := call_rdk (P := Try.prog) (A := A36) (I := I) (f := 15) (spec := fun x => .int .i64 (f15 x.1)) hI15 N (show A36.r (· < k.size) k [_] (x, ()) from ⟨_, _, rfl, rr, rfl⟩) (by omega)
  have c55 := call_rdk (P := Try.prog) (A := A36) (I := I) (f := 55) (spec := fun x => .int .u64 (f55 x.1)) hI55 N (show A36.r (· < k.size) k [_] (x, ()) from ⟨_, _, rfl, rr, rfl⟩) (by omega)
  have r00 := r
  obtain ⟨v1, v2, rfl, b1, b2, b3, hv1, b4, b5, b6, b7, b8, b9, hv2⟩ := R36_inv r
  obtain ⟨oa, ca, rfl, -, hla⟩ := slice_form hv1
  obtain ⟨ob, cb, rfl, -, hlb⟩ := slice_form hv2
  rw [evalV_call (P := Try.prog) (intr := I) (f := 16) (m := 62) (rs := #[.cell 4 47, .tmp 5]) hI Try.func16 rfl rfl rfl]
  by_cases q0 : f15 x = 0
  case neg =>
    simp (maxDischargeDepth := 16) only [z05, z08, z09, z0a, z0b, z0d, z0e, z0f, z0o, z0p, z0q, z0s, z0t, z0u, z0v, z0w, z0x, z0z, z10, z11, z13, z1b, z1e, z1f, z1g, z1h, z1l, z1v, z1w, z1x, z2c, z2o, z2x, z2y, z2z, z33, z34, z38, z39, z3b, z3d, z3f, z3g, z3h, z3p, z3q, z3s, z3v, z3w, z3x, z3y, z3z, z41, z43, z44, z45, z46, z49, z4a, z4c, z4e, z4f, z4g, z4h, z4i, z4j, z4k, z4l, z4p, z4q, z4r, z4s, z4t, z4u, z4v, z4w, z4x, z4y, z4z, z50, z51, z52, z53, z5b, z5d, z5f, z72, z7v, z7w, z80, z81, Nat.reduceAdd, Nat.reduceSub, ↓reduceIte, Hp.row, Hp.wr, hasBx15, tBuildOkx47, tPartx36, tPartx47, tSizex47, tZerox47, ro_le hro, hro, c15, q0]
    exact Al.done (by repeat (first | assumption | exact Keeps.refl _ | refine Keeps.push ?_ _ | refine Keeps.set ?_ (by first | omega | (simp only [Hp.size_push, Hp.size_setB]; omega)) _)) rfl ⟨_, rfl, R47_mk (x := zM) i0 i0 i0 u0 u0 u0 nilR u0 u0 u0 u0 u0 nilR w0 u0 w0 u0 w0 u0 w0 nilR i0⟩
  rw [q0]
  by_cases q1 : offM x n < x.2.1.1.1
  · have hof : offD x n = (3, 0, 0, 0, (0, 0), [], 0, false, 0, 0, x.2.1, 0, [], 0) := by unfold offD; rw [if_pos q1]
    rw [hof]
    have q1' := q1
    unfold offM at q1'
    simp (maxDischargeDepth := 16) only [z04, z08, z09, z0a, z0b, z0c, z0d, z0e, z0p, z0q, z0s, z0t, z0u, z0v, z0w, z0x, z0z, z10, z11, z13, z16, z1b, z1e, z1f, z1g, z1h, z1l, z1u, z1v, z1w, z1x, z2c, z2d, z2l, z2m, z2o, z2w, z2x, z2y, z2z, z33, z34, z38, z39, z3a, z3b, z3h, z3p, z3q, z3s, z3v, z3w, z3x, z3y, z3z, z40, z41, z42, z43, z44, z45, z46, z49, z4a, z4c, z4e, z4f, z4g, z4h, z4i, z4j, z4k, z4l, z4m, z4n, z4o, z4p, z4q, z4r, z4s, z4t, z4u, z4v, z4w, z4x, z4y, z4z, z50, z51, z53, z54, z5a, z5c, z5f, z72, z7v, z7w, z80, z81, z82, z83, Nat.reduceLeDiff, Nat.reduceAdd, Nat.reduceSub, ↓reduceIte, Hp.cell, Hp.row, Hp.wr, hasBx15, hasBx55, hasBx56, tBuildFx47x0, tBuildFx47x10, tBuildOkx47, tFieldAx24x0, tFieldAx27x0, tFieldAx33x0, tFieldAx33x1, tFieldAx36x1, tFieldAx47x10, tPartx22, tPartx25, tPartx33, tPartx36, tSizex47, tZerox47, ro_le hro, hro, c15, c55, eq_true q0, q1']
    refine al_kops (run56 hI56 (by omega) (o := false) (p := p) (R25.mono hv1 (fun _ h => h) id (Fr.of fun b hb => ?_)) (fun b hb => by have := hp b hb; simp only [Hp.size_push, Hp.size_setB]; omega) (by simp only [Hp.size_push, Hp.size_setB, Hp.ro_push, Hp.ro_setB]; omega) (by have := hS.routes; omega)) ?_
    · have := hp b hb
      simp only [Hp.get_push, Hp.get_setB, Hp.size_push, Hp.size_setB, if_neg (show ¬ b = k.size + 1 + 1 by omega), if_neg (show ¬ b = k.size + 1 by omega), if_neg (show ¬ b = k.size by omega), if_neg (show ¬ b = k.size + 2 by omega)]
    rintro w k2 hk2 hr2 ⟨b?, ho, hb?⟩
    have hrep := (ho.flat (p' := fun _ => False) (o' := true) (by simp)).rp (q := fun c => k.size + 3 ≤ c ∧ c < k2.size) (fun _ h => h.elim) (fun b h => ⟨by have := hb? b h; simpa using this, by subst h; exact ho.lt⟩)
    obtain ⟨oz, cz, rfl, -⟩ := slice_form hrep
    have hkk : Keeps k k2 := Keeps.trans (by repeat (first | assumption | exact Keeps.refl _ | refine Keeps.push ?_ _ | refine Keeps.set ?_ (by first | omega | (simp only [Hp.size_push, Hp.size_setB]; omega)) _)) hk2
    have g1 := hk2.get (k.size + 1) (by first | omega | (simp only [Hp.size_push, Hp.size_setB, Hp.ro_push, Hp.ro_setB]; omega))
    have g2 := hk2.get (k.size + 2) (by first | omega | (simp only [Hp.size_push, Hp.size_setB, Hp.ro_push, Hp.ro_setB]; omega))
    simp (maxDischargeDepth := 16) only [z33, z34, z35, z36, z3a, z4a, z4c, z4d, Nat.reduceEqDiff, Nat.reduceAdd, ↓reduceIte] at g1 g2 hr2
    have hs := hk2.size
    simp only [Hp.size_push, Hp.size_setB] at hs
    have h1 : ∀ j, (k2.ro ≤ k.size + j) = True := fun j => by rw [hr2]; exact ro_le hro
    simp (maxDischargeDepth := 16) only [z05, z08, z09, z0d, z0e, z0f, z0o, z0p, z0q, z0s, z0t, z0u, z0v, z0w, z0z, z11, z16, z1e, z1f, z1v, z1w, z1x, z2o, z2q, z2w, z2x, z2y, z33, z35, z36, z3b, z3d, z3f, z3g, z3p, z3q, z3s, z3v, z3w, z3x, z3y, z3z, z41, z43, z44, z45, z46, z49, z4d, z4e, z4f, z4g, z4h, z4i, z4p, z4q, z4r, z4z, z50, z51, z52, z53, z54, z5f, z72, Nat.reduceEqDiff, Nat.reduceLeDiff, Nat.reduceAdd, Nat.reduceSub, ↓reduceIte, Hp.row, Hp.wr, tFieldAx27x0, tFieldAx33x1, tFieldAx47x10, tPartx47, tSizex25, tSizex47, g1, g2, h1]
    refine Al.done (by repeat (first | assumption | exact Keeps.refl _ | refine Keeps.push ?_ _ | refine Keeps.set ?_ (by first | omega | (simp only [Hp.size_push, Hp.size_setB]; omega)) _)) hr2 ⟨_, rfl, R47_mk (x := (3, 0, 0, 0, (0, 0), [], 0, false, 0, 0, x.2.1, 0, [], 0)) i3 i0 i0 u0 u0 u0 nilR u0 u0 u0 b2 b3 ((Rp.slice R61).mono hrep (fun b hb => ⟨by omega, by simp only [Hp.size_setB]; omega⟩) id (Fr.of fun b hb => by rw [get_set_ne (by omega), get_set_ne (by omega)])) b4 b5 b6 b7 b8 b9 w0 nilR i0⟩
  · have hof : offD x n = (1, 0, 0, 0, ((f57 x (offM x n)).1, (f57 x (offM x n)).2.1), (x.2.2.drop (offM x n - x.2.1.1.1).toNat).take 8, 0, false, 0, 0, ((0, 0), [], ((0, 0), (0, 0), (0, 0))), 0, [], 0) := by unfold offD; rw [if_neg q1]
    rw [hof]
    have hu := u64_bounds hn
    have hx := u64_bounds b2
    have hx62 : x.2.1.1.1 ≤ 4611686018427387904 := by
      unfold f15 at q0
      by_cases h : 4611686018427387904 < x.2.1.1.1
      · rw [if_pos h] at q0; cases q0
      · omega
    have hlen := hS.ents
    have h55 : f55 x = x.2.1.1.1 + x.2.2.length := by
      unfold f55
      rw [u64_in (x := (x.2.2.length : Int)) (by omega) (by omega), u64_in (by omega) (by omega)]
    obtain ⟨mm, hmm⟩ : ∃ mm, mm = offM x n := ⟨_, rfl⟩
    have hm1 : min n (f55 x) = mm := hmm.symm
    rw [← hmm] at q1 ⊢
    have hmb : 0 ≤ mm ∧ mm < 18446744073709551616 := by unfold offM at hmm; omega
    have hmx : mm ≤ x.2.1.1.1 + x.2.2.length := by unfold offM at hmm; omega
    have c57 := call_rdk (P := Try.prog) (A := A36i) (I := I) (f := 57) (spec := fun x => .tuple #[vAt (f57 x.1 x.2.1).1 (f57 x.1 x.2.1).2.1, .bool (f57 x.1 x.2.1).2.2]) hI57 N (show A36i.r (· < k.size) k [_, _] (x, mm, ()) from ⟨_, _, rfl, rr, _, _, rfl, ⟨rfl, by constructor <;> simp [IntKind.min, IntKind.max, IntKind.bits, IntKind.signed] <;> omega⟩, rfl⟩) (by omega)
    obtain ⟨j, hj⟩ : ∃ j : Nat, (j : Int) = mm - x.2.1.1.1 := ⟨(mm - x.2.1.1.1).toNat, by omega⟩
    have hw : IntKind.u64.wrap (mm - x.2.1.1.1) = (j : Int) := by rw [u64_in] <;> omega
    have hjt : (mm - x.2.1.1.1).toNat = j := by omega
    rw [hjt]
    simp (maxDischargeDepth := 16) only [z04, z08, z09, z0a, z0c, z0d, z0e, z0p, z0q, z0s, z0t, z0u, z0v, z0w, z0x, z0z, z10, z11, z13, z16, z1a, z1e, z1f, z1g, z1h, z1k, z1l, z1u, z1v, z1w, z1x, z25, z2c, z2d, z2l, z2o, z2t, z2w, z2x, z2y, z2z, z34, z35, z38, z39, z3a, z3b, z3h, z3p, z3v, z3w, z3x, z3y, z3z, z41, z43, z44, z45, z46, z49, z4a, z4c, z4e, z4f, z4g, z4h, z4i, z4j, z4k, z4l, z4m, z4n, z4o, z4p, z4q, z4r, z4s, z4t, z4u, z4v, z4w, z4x, z4y, z4z, z50, z51, z53, z54, z5a, z5b, z5c, z5f, z72, z7v, z7w, z87, Nat.reduceEqDiff, Nat.reduceAdd, Nat.reduceSub, ↓reduceIte, Hp.cell, Hp.row, Hp.wr, hasBx15, hasBx55, hasBx57, tFieldAx24x0, tFieldAx33x0, tFieldAx36x1, tFieldAx36x2, tPartx22, tPartx34, tPartx36, tSizex24, tZerox24, tZerox47, ro_le hro, hro, c15, c55, eq_true q0, hm1, q1, c57, hw]
    refine ex_kops (cut_ex (e := R85) (o := false) (p := p) (l := j) (hh := x.2.2.length) (R34.mono hv2 (fun _ h => h) id (Keeps.fr (h := k) (by repeat (first | assumption | exact Keeps.refl _ | refine Keeps.push ?_ _ | refine Keeps.set ?_ (by first | omega | (simp only [Hp.size_push, Hp.size_setB]; omega)) _)) hp)) tElemx34 (by decide) ⟨_, rfl⟩ rfl (by omega) (Nat.le_refl _)) ?_
    rintro v3 k3 ⟨hk3, hr3, hcase, hrep3⟩
    rw [List.take_length] at hrep3
    obtain ⟨o3, c3, rfl, -, hl3⟩ := slice_form hrep3
    have hkk3 : Keeps k k3 := Keeps.trans (by repeat (first | assumption | exact Keeps.refl _ | refine Keeps.push ?_ _ | refine Keeps.set ?_ (by first | omega | (simp only [Hp.size_push, Hp.size_setB]; omega)) _)) hk3
    have g1 := hk3.get (k.size + 1) (by first | omega | (simp only [Hp.size_push, Hp.size_setB, Hp.ro_push, Hp.ro_setB]; omega))
    have g3 := hk3.get (k.size + 2) (by first | omega | (simp only [Hp.size_push, Hp.size_setB, Hp.ro_push, Hp.ro_setB]; omega))
    simp (maxDischargeDepth := 16) only [z33, z34, z35, z36, z3a, z4a, z4c, z4d, Nat.reduceEqDiff, Nat.reduceAdd, ↓reduceIte] at g1 g3 hr3
    have hs3 := hk3.size
    simp only [Hp.size_push, Hp.size_setB] at hs3
    have hr3' := (Rp.slice R85).mono hrep3 (p' := fun b => b < k3.size ∧ b ≠ k.size + 2) (fun b hb => by
      rcases hb with hb | hb
      · have := hp b hb; exact ⟨by omega, by omega⟩
      · have h1 := hb.1
        simp only [Hp.size_push, Hp.size_setB] at h1
        exact ⟨hb.2, by omega⟩) id (Fr.refl _)
    have vo3 := fun kept bits => vb_old (s0 := k3.size) (kept := kept) (bits := bits) (vin_mono (fun b hb => hb.1) ((Rp.slice R85).rvin hr3' _ (List.mem_singleton.2 rfl)))
    simp (maxDischargeDepth := 16) only [z09, z0d, z0e, z0p, z0q, z0s, z0t, z0v, z11, z3b, z4e, z4f, z4g, z4h, z4i, z7t]
    rw [evalDraw_modes _ _ [(3, 0, 1), (0, 0, 2), (0, 0, 4), (0, 4, 12), (0, 12, 28), (2, 30, 62), (5, 9, 126), (0, 127, 255), (4, 255, 511), (0, 511, 1023)] (by kernel_rfl)]
    have p1 : k.size + 1 < k3.size := by omega
    have p2 : k.size + 2 < k3.size := by omega
    have hdl : (x.2.2.drop j).length ≤ 100 := by rw [List.length_drop]; omega
    obtain ⟨m8, hm8, hm82⟩ : ∃ m8 : Nat, min ((x.2.2.drop j).length : Int) 8 = (m8 : Int) ∧ m8 = min (x.2.2.drop j).length 8 := ⟨min (x.2.2.drop j).length 8, by omega, rfl⟩
    obtain ⟨hc1, hc2⟩ := cut_rp (P := Try.prog) (t := 34) (e := R85) (lov := none) (hiv := some (.int .i64 (m8 : Int))) (l := 0) (hh := m8) (h := k3.view 30 []) ((Rp.slice R85).mono hr3' (fun _ h => h) id (Fr.of fun b hb => view_nil)) tElemx34 (by decide) rfl ⟨_, rfl⟩ (by omega) (by omega) (.inl rfl)
    rw [show R85.len = 4 from rfl] at hc1 hc2
    have vo4 := fun kept bits => vb_old (s0 := k3.size) (kept := kept) (bits := bits) (vin_mono (fun b hb => hb.1) ((Rp.slice R85).rvin hc2 _ (List.mem_singleton.2 rfl)))
    simp (maxDischargeDepth := 16) only [z0t, z0v, z0w, z0x, z0z, z10, z1e, z1k, z1l, z1p, z1r, z1u, z1v, z2l, z2x, z3b, z3h, z3x, z3y, z3z, z41, z43, z44, z45, z46, z4e, z4f, z4g, z4h, z4i, z4j, z4k, z4l, z4p, z4q, z4r, z4s, z4u, z4v, z4z, z53, z5f, z5j, z5l, z5u, z5x, z62, z6d, z6g, z6t, z6x, z70, z71, z87, z8c, z8e, z8i, z8k, z8l, z8m, z8n, z8o, z8p, z8q, Nat.reduceEqDiff, Nat.reduceAdd, Nat.reduceSub, ↓reduceIte, Nat.reduceDiv, Nat.reduceMod, keepR, Hp.row, hasBx58, tLenx34, tPartx24, g3, hm8, vo3, hc1, vo4]
    refine ex_kdh (Al k _) (Al.ex (run58 (N := N) (k := k3.setB (k.size + 2) none) hI58 hI77 hI89 (p := fun b => b < k3.size ∧ b ≠ k.size + 2) ((Rp.slice R85).mono hc2 (fun _ h => h) id (Fr.of fun b hb => by rw [get_set_ne hb.2, view_nil])) (fun b hb => by simp only [Hp.size_setB]; exact hb.1) (by simp only [Hp.size_setB, Hp.ro_setB]; omega) (by simp only [List.drop_zero, List.length_take]; omega) (by simp only [List.drop_zero, List.length_take]; omega) (fun e he => by have := hS.ups e (List.mem_of_mem_drop (List.mem_of_mem_take (by simpa using he))); omega))) (fun v k' h => by simpa using h.1.size) ?_ (by decide) ?_
    · intro v k' h
      exact vin_mono (fun b hb => .inr (by have h := hb.1; simp only [Hp.size_setB] at h; exact ⟨h, hb.2⟩)) (R34.rvin h.2.2 v (by simp))
    rintro v k4 ⟨hk4, hr4, hv⟩
    rw [List.drop_zero] at hv
    obtain ⟨o4, c4, rfl, -⟩ := slice_form hv
    have hs4 := hk4.size
    simp only [Hp.size_setB, Hp.ro_setB] at hs4 hr4
    have gn1 : k4.get (k.size + 1) = _ := (hk4.get (k.size + 1) (by simp only [Hp.size_setB]; omega)).trans ((get_set_ne (by omega)).trans g1)
    have p3 : ∀ j, (k4.ro ≤ k.size + j) = True := fun j => by rw [hr4, hr3]; exact ro_le hro
    have n41 : k.size + 1 < k4.size := by omega
    have n42 : k.size + 2 < k4.size := by omega
    have al6 : ∀ bits, decide (bits / 2 ^ 6 % 2 = 1) = true → vokB (allow k3.size (keepS 6 k3.size k4.size []) bits) (.slice o4 (List.take m8 (x.2.2.drop j)).length c4) = true := fun bits hb => vin_p (R34.rvin hv _ (List.mem_singleton.2 rfl)) fun b hb' => allow_own (by have h := hb'.1; simp only [Hp.size_setB] at h; exact h) hb'.2 (by rw [tb]; exact hb)
    simp (maxDischargeDepth := 16) only [z05, z0d, z0e, z0o, z0t, z0u, z0v, z0w, z0z, z11, z1b, z1f, z1w, z1x, z2m, z2o, z2q, z2x, z2y, z33, z35, z36, z3b, z3d, z3f, z3g, z3p, z3q, z3s, z3v, z3w, z3x, z3y, z3z, z41, z43, z44, z45, z46, z49, z4b, z4d, z4e, z4f, z4g, z4h, z4i, z4j, z4k, z4l, z4p, z4q, z4r, z4z, z50, z51, z52, z53, z5a, z5f, z5j, z5k, z5t, z5u, z62, z63, z66, z67, z6d, z6g, z72, z80, z81, z82, z83, z8d, z8s, z8t, Nat.reduceEqDiff, Nat.reduceLeDiff, Nat.reduceAdd, Nat.reduceSub, ↓reduceIte, Nat.reduceDiv, Nat.reduceMod, Nat.reducePow, keepR, Hp.row, Hp.wr, tBuildFx47x0, tBuildFx47x4, tBuildFx47x5, tBuildOkx47, tPartx47, tSizex47, tZerox47, gn1, al6, p3, ne_f n41, ne_f0 n41, lt_t n41, lt_t0 n41, ne_f n42, ne_f0 n42, lt_t n42, lt_t0 n42]
    have hmi : IntKind.u64.min ≤ mm ∧ mm ≤ IntKind.u64.max := by constructor <;> simp [IntKind.min, IntKind.max, IntKind.bits, IntKind.signed] <;> omega
    have hfb := f57_b r00 hmi
    have h8 : (x.2.2.drop j).take 8 = (x.2.2.drop j).take m8 := by rw [hm82, Nat.min_comm, ← List.take_eq_take_min]
    rw [h8]
    refine Al.done ⟨by simp only [Hp.size_setB]; omega, fun c hc => ?_⟩ (by simp only [Hp.ro_setB]; omega) ?_
    · rw [get_set_ne (by omega), get_set_ne (by omega), hk4.get c (by simp only [Hp.size_setB]; omega), get_set_ne (by omega)]; exact hkk3.get c hc
    exact ⟨_, rfl, R47_mk (x := (1, 0, 0, 0, ((f57 x mm).1, (f57 x mm).2.1), (x.2.2.drop j).take m8, 0, false, 0, 0, ((0, 0), [], ((0, 0), (0, 0), (0, 0))), 0, [], 0)) i1 i0 i0 u0 hfb.1 hfb.2 ((Rp.slice R85).mono hv (fun b hb => ⟨by have h := hb.1; simp only [Hp.size_setB] at h; omega, by simp only [Hp.size_setB]; exact hb.2⟩) id (Fr.of fun b hb => by have h := hb.1; simp only [Hp.size_setB] at h; rw [get_set_ne (by omega), get_set_ne (by omega)])) u0 u0 u0 u0 u0 nilR w0 u0 w0 u0 w0 u0 w0 nilR i0⟩
end Go.Abs.B1
