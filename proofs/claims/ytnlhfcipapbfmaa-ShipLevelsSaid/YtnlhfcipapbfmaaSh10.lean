/- Ships: data in memory of their own. -/
import Derived.Test.YtnlhfcipapbfmaaSh6
namespace Go.Abs.B1
open Go.Proofs
set_option maxRecDepth 10000
set_option maxHeartbeats 1000000
set_option linter.all false
/-- Fresh blocks: made between two heaps. -/
abbrev fr (k k' : Hp) : Nat → Prop := fun b => k.size ≤ b ∧ b < k'.size
theorem run53 {I : Intr} (hI : I 53 = none) {N : Nat} (hN : 0 < N) {k : Hp} {cs : List Value} {x : T33} {p : Nat → Prop} (r : R33.r false p k cs x) (hp : ∀ b, p b → b < k.size) (hro : k.ro ≤ k.size) :
    Al k (fun k' v => ∃ ds, v = .agg ds.toArray ∧ R33.r true (fr k k') k' ds (x.1, x.2.1.take 20, x.2.2)) (evalV Try.prog I N (.fn 53) #[.agg cs.toArray] k) := by
  obtain ⟨n, rfl⟩ : ∃ n, N = n + 1 := ⟨N - 1, by omega⟩
  obtain ⟨v1, rfl, b1, b2, hv, b3⟩ := R33_inv r
  rw [evalV_call (P := Try.prog) (intr := I) (f := 53) (m := 17) (rs := #[.cell 2 33]) hI Try.func53 rfl rfl rfl]
  have hv0 := hv
  obtain ⟨a, c, rfl, -, hl⟩ := slice_form hv
  unfold capOpen at hl
  obtain ⟨m, hm, hm2⟩ : ∃ m : Nat, min (x.2.1.length : Int) 20 = (m : Int) ∧ m = min x.2.1.length 20 := ⟨min x.2.1.length 20, by omega, rfl⟩
  have hcut : ∀ k2, Keeps k k2 → aSlice Try.prog 25 (.slice a x.2.1.length c) none (some (.int .i64 (m : Int))) none k2 = some (cutV (.slice a x.2.1.length c) 0 m 21, k2) ∧ R25.r false p k2 [cutV (.slice a x.2.1.length c) 0 m 21] (x.2.1.take m) := fun k2 hk => by
    have := cut_rp (P := Try.prog) (t := 25) (e := R61) (lov := none) (hiv := some (.int .i64 (m : Int))) (l := 0) (hh := m) ((Rp.slice R61).mono hv0 (fun _ h => h) id (hk.fr hp)) tElemx25 (by decide) rfl ⟨_, rfl⟩ (by omega) (by omega) (.inl rfl)
    exact this
  have hc1 := fun k2 hk => (hcut k2 hk).1
  simp (maxDischargeDepth := 16) only [z08, z09, z0d, z0e, z0p, z0q, z0s, z0t, z0v, z0w, z0z, z16, z1e, z1g, z1h, z1i, z1k, z1m, z1p, z1r, z1u, z1v, z2l, z2o, z2w, z2x, z2z, z34, z38, z39, z3a, z3b, z4a, z4e, z4f, z4g, z4h, z4i, z4j, z4k, z4l, z4m, z4n, z4o, z4p, z4q, z4r, z4s, z4t, z4u, z4w, z4x, z4y, z4z, z50, z51, z53, z54, z7v, z7w, z86, z87, Nat.reduceEqDiff, Nat.reduceAdd, Nat.reduceSub, ↓reduceIte, Hp.cell, tFieldAx27x0, tFieldAx33x1, tLenx25, tPartx25, tRowx25, tZerox33, ro_le hro, hm, hc1]
  refine al_kops (copy_al (e := R61) (o := false) (b := k.size + 2) tRowx25 (by kernel_rfl) rfl (by decide) (hcut _ (by repeat (first | assumption | exact Keeps.refl _ | refine Keeps.push ?_ _ | refine Keeps.set ?_ (by first | omega | (simp only [Hp.size_push, Hp.size_setB]; omega)) _))).2 (by first | omega | (simp only [Hp.size_push, Hp.size_setB, Hp.ro_push, Hp.ro_setB]; omega)) (by simp (maxDischargeDepth := 16) only [z34, z3a, z4a, Nat.reduceAdd, ↓reduceIte]) (by first | omega | (simp only [Hp.size_push, Hp.size_setB, Hp.ro_push, Hp.ro_setB]; omega)) (fun c hc => by have := hp c hc; simp only [Hp.size_push]; omega) (fun h => by have := hp _ h; omega) (by rw [List.length_take]; omega) (by rw [List.length_take]; unfold capOpen; omega)) ?_
  rintro v k' hk hr ⟨b', hb', hlt, ho⟩
  obtain ⟨c', rfl⟩ := ho.form
  have hkk : Keeps k k' := Keeps.trans (by repeat (first | assumption | exact Keeps.refl _ | refine Keeps.push ?_ _ | refine Keeps.set ?_ (by first | omega | (simp only [Hp.size_push, Hp.size_setB]; omega)) _)) hk
  have g0 := hk.get k.size (by first | omega | (simp only [Hp.size_push, Hp.size_setB, Hp.ro_push, Hp.ro_setB]; omega))
  have g1 := hk.get (k.size + 1) (by first | omega | (simp only [Hp.size_push, Hp.size_setB, Hp.ro_push, Hp.ro_setB]; omega))
  simp (maxDischargeDepth := 16) only [z34, z36, z38, z39, z3a, z4a, z4c, Nat.reduceEqDiff, Nat.reduceAdd, ↓reduceIte] at g0 g1 hr
  have hs := hk.size
  simp only [Hp.size_push] at hs
  have h0 : (k'.ro ≤ k.size) = True := by rw [hr]; exact eq_true hro
  have h1 : (k'.ro ≤ k.size + 1) = True := by rw [hr]; exact ro_le hro
  simp (maxDischargeDepth := 16) only [z05, z08, z09, z0d, z0e, z0o, z0p, z0q, z0s, z0t, z0u, z0v, z0z, z16, z1b, z1e, z1f, z1v, z1w, z1x, z2o, z2q, z2w, z2x, z2y, z33, z35, z37, z39, z3b, z3c, z3g, z3p, z3s, z3v, z3w, z3x, z3y, z3z, z41, z43, z44, z45, z46, z49, z4d, z4e, z4f, z4g, z4h, z4i, z4j, z4k, z4l, z4p, z4q, z4r, z4z, z50, z51, z53, z5f, z72, z80, z81, z82, z83, Nat.reduceLeDiff, Nat.reduceAdd, Nat.reduceSub, ↓reduceIte, Hp.row, Hp.wr, tBuildFx27x0, tBuildOkx27, tFieldAx33x1, tPartx33, tSizex27, tSizex33, tZerox27, g0, g1, h0, h1]
  have hm20 : x.2.1.take m = x.2.1.take 20 := by rw [hm2, Nat.min_comm, ← List.take_eq_take_min]
  rw [hm20] at ho ⊢
  have hr1 := (ho.flat (p' := fun _ => False) (o' := true) (by simp)).rp (q := (· = b')) (fun _ h => h.elim) (fun b h => by cases h; rfl)
  have hb2 : k.size + 2 ≤ b' := by rcases hb' with rfl | rfl; exact Nat.le_refl _; (simp only [Hp.size_push]; omega)
  refine Al.done (by repeat (first | assumption | exact Keeps.refl _ | refine Keeps.push ?_ _ | refine Keeps.set ?_ (by first | omega | (simp only [Hp.size_push, Hp.size_setB]; omega)) _)) hr ⟨_, rfl, R33_mk (x := (x.1, x.2.1.take 20, x.2.2)) b1 b2 ((Rp.slice R61).mono hr1 (fun b h => by subst h; exact ⟨by omega, by simpa using hlt⟩) id (Fr.of fun b h => by subst h; rw [get_set_ne (by omega), get_set_ne (by omega)])) b3.1 b3.2.1 b3.2.2.1 b3.2.2.2.1 b3.2.2.2.2.1 b3.2.2.2.2.2⟩
end Go.Abs.B1
