/- Ships: copies. -/
import Derived.Test.YtnlhfcipapbfmaaSh12
import Derived.Test.YtnlhfcipapbfmaaAbsE
namespace Go.Abs.B1
open Go.Proofs
set_option maxRecDepth 10000
set_option maxHeartbeats 4000000
set_option linter.all false
theorem run89 {I : Intr} (hI : I 89 = none) {N : Nat} (hN : 0 < N) {k : Hp} {v : Value} {xs : T43} {o : Bool} {p : Nat → Prop} (r : R43.r o p k [v] xs) (hp : ∀ b, p b → b < k.size) (hro : k.ro ≤ k.size) (hl : xs.length ≤ 1000) :
    Al k (fun k' w => ∃ b?, OwnS R139 o p k' w b? xs ∧ ∀ b, b? = some b → k.size ≤ b) (evalV Try.prog I N (.fn 89) #[v] k) := by
  obtain ⟨N, rfl⟩ : ∃ n, N = n + 1 := ⟨N - 1, by omega⟩
  have r0 := r
  obtain ⟨a, c, rfl, -, hc⟩ := slice_form r
  rw [evalV_call (P := Try.prog) (intr := I) (f := 89) (m := 8) (rs := #[.tmp 2]) hI Try.func89 rfl rfl rfl]
  cases a with
  | none =>
    obtain ⟨rfl, -⟩ := slice_nil_inv r
    simp (maxDischargeDepth := 16) only [z05, z08, z09, z0a, z0b, z0d, z0e, z0f, z0o, z0p, z0q, z0s, z0t, z0v, z0w, z0z, z10, z11, z13, z3b, z3c, z3f, z4e, z4f, z4g, z4h, z4i, z4p, z4q, z4r, z4s, z4t, z4u, z4w, z4x, z4y, z4z, z53, z7k, z7n, Nat.reduceSub, tSlix43]
    exact Al.done (Keeps.refl _) rfl ⟨none, OwnS.nil, by simp⟩
  | some a =>
    simp (maxDischargeDepth := 16) only [z04, z08, z09, z0a, z0c, z0d, z0e, z0p, z0q, z0s, z0t, z0v, z0w, z0z, z10, z11, z13, z1i, z1m, z3b, z4e, z4f, z4g, z4h, z4i, z4j, z4k, z4l, z4p, z4q, z4r, z4s, z4t, z4u, z4w, z4x, z4y, z50, z53, z7k, z7m, z86, Nat.reduceSub, tRowx43, tSlix43]
    refine al_kops (copy_al (e := R139) (o := o) (b := k.size) tRowx43 (by kernel_rfl) rfl (by decide) ((Rp.slice R139).mono r0 (fun _ h => h) id (Fr.of fun b hb => get_push_ne (by have := hp b hb; omega))) (by first | omega | (simp only [Hp.size_push, Hp.size_setB, Hp.ro_push, Hp.ro_setB]; omega)) (by simp (maxDischargeDepth := 16) only [z34, ↓reduceIte]) (by first | omega | (simp only [Hp.size_push, Hp.size_setB, Hp.ro_push, Hp.ro_setB]; omega)) (fun c hc => by have := hp c hc; simp only [Hp.size_push]; omega) (fun h => by have := hp _ h; omega) (by omega) (by unfold capOpen; omega)) ?_
    rintro w k' hk hr ⟨b', hb', hlt, ho⟩
    simp (maxDischargeDepth := 16) only [z05, z0d, z0e, z0o, z0p, z0q, z0s, z0t, z0v, z11, z3b, z3c, z3f, z4e, z4f, z4g, z4h, z4i, z4z]
    exact Al.done (Keeps.trans (by repeat (first | assumption | exact Keeps.refl _ | refine Keeps.push ?_ _ | refine Keeps.set ?_ (by first | omega | (simp only [Hp.size_push, Hp.size_setB]; omega)) _)) hk) hr ⟨some b', ho, fun b h => by cases h; rcases hb' with rfl | rfl <;> simp⟩
theorem run56 {I : Intr} (hI : I 56 = none) {N : Nat} (hN : 0 < N) {k : Hp} {v : Value} {xs : T25} {o : Bool} {p : Nat → Prop} (r : R25.r o p k [v] xs) (hp : ∀ b, p b → b < k.size) (hro : k.ro ≤ k.size) (hl : xs.length ≤ 1000) :
    Al k (fun k' w => ∃ b?, OwnS R61 o p k' w b? xs ∧ ∀ b, b? = some b → k.size ≤ b) (evalV Try.prog I N (.fn 56) #[v] k) := by
  obtain ⟨N, rfl⟩ : ∃ n, N = n + 1 := ⟨N - 1, by omega⟩
  have r0 := r
  obtain ⟨a, c, rfl, -, hc⟩ := slice_form r
  rw [evalV_call (P := Try.prog) (intr := I) (f := 56) (m := 8) (rs := #[.tmp 2]) hI Try.func56 rfl rfl rfl]
  cases a with
  | none =>
    obtain ⟨rfl, -⟩ := slice_nil_inv r
    simp (maxDischargeDepth := 16) only [z05, z08, z09, z0a, z0b, z0d, z0e, z0f, z0o, z0p, z0q, z0s, z0t, z0v, z0w, z0z, z10, z11, z13, z3b, z3c, z3f, z4e, z4f, z4g, z4h, z4i, z4p, z4q, z4r, z4s, z4t, z4u, z4w, z4x, z4y, z4z, z53, z7k, z7n, Nat.reduceSub, tSlix25]
    exact Al.done (Keeps.refl _) rfl ⟨none, OwnS.nil, by simp⟩
  | some a =>
    simp (maxDischargeDepth := 16) only [z04, z08, z09, z0a, z0c, z0d, z0e, z0p, z0q, z0s, z0t, z0v, z0w, z0z, z10, z11, z13, z1i, z1m, z3b, z4e, z4f, z4g, z4h, z4i, z4j, z4k, z4l, z4p, z4q, z4r, z4s, z4t, z4u, z4w, z4x, z4y, z50, z53, z7k, z7m, z86, Nat.reduceSub, tRowx25, tSlix25]
    refine al_kops (copy_al (e := R61) (o := o) (b := k.size) tRowx25 (by kernel_rfl) rfl (by decide) ((Rp.slice R61).mono r0 (fun _ h => h) id (Fr.of fun b hb => get_push_ne (by have := hp b hb; omega))) (by first | omega | (simp only [Hp.size_push, Hp.size_setB, Hp.ro_push, Hp.ro_setB]; omega)) (by simp (maxDischargeDepth := 16) only [z34, ↓reduceIte]) (by first | omega | (simp only [Hp.size_push, Hp.size_setB, Hp.ro_push, Hp.ro_setB]; omega)) (fun c hc => by have := hp c hc; simp only [Hp.size_push]; omega) (fun h => by have := hp _ h; omega) (by omega) (by unfold capOpen; omega)) ?_
    rintro w k' hk hr ⟨b', hb', hlt, ho⟩
    simp (maxDischargeDepth := 16) only [z05, z0d, z0e, z0o, z0p, z0q, z0s, z0t, z0v, z11, z3b, z3c, z3f, z4e, z4f, z4g, z4h, z4i, z4z]
    exact Al.done (Keeps.trans (by repeat (first | assumption | exact Keeps.refl _ | refine Keeps.push ?_ _ | refine Keeps.set ?_ (by first | omega | (simp only [Hp.size_push, Hp.size_setB]; omega)) _)) hk) hr ⟨some b', ho, fun b h => by cases h; rcases hb' with rfl | rfl <;> simp⟩
theorem run77 {I : Intr} (hI : I 77 = none) {N : Nat} (hN : 0 < N) {k : Hp} {v : Value} {xs : T34} {o : Bool} {p : Nat → Prop} (r : R34.r o p k [v] xs) (hp : ∀ b, p b → b < k.size) (hro : k.ro ≤ k.size) (hl : xs.length ≤ 1000) :
    Al k (fun k' w => ∃ b?, OwnS R85 o p k' w b? xs ∧ ∀ b, b? = some b → k.size ≤ b) (evalV Try.prog I N (.fn 77) #[v] k) := by
  obtain ⟨N, rfl⟩ : ∃ n, N = n + 1 := ⟨N - 1, by omega⟩
  have r0 := r
  obtain ⟨a, c, rfl, -, hc⟩ := slice_form r
  rw [evalV_call (P := Try.prog) (intr := I) (f := 77) (m := 8) (rs := #[.tmp 2]) hI Try.func77 rfl rfl rfl]
  cases a with
  | none =>
    obtain ⟨rfl, -⟩ := slice_nil_inv r
    simp (maxDischargeDepth := 16) only [z05, z08, z09, z0a, z0b, z0d, z0e, z0f, z0o, z0p, z0q, z0s, z0t, z0v, z0w, z0z, z10, z11, z13, z3b, z3c, z3f, z4e, z4f, z4g, z4h, z4i, z4p, z4q, z4r, z4s, z4t, z4u, z4w, z4x, z4y, z4z, z53, z7k, z7n, Nat.reduceSub, tSlix34]
    exact Al.done (Keeps.refl _) rfl ⟨none, OwnS.nil, by simp⟩
  | some a =>
    simp (maxDischargeDepth := 16) only [z04, z08, z09, z0a, z0c, z0d, z0e, z0p, z0q, z0s, z0t, z0v, z0w, z0z, z10, z11, z13, z1i, z1m, z3b, z4e, z4f, z4g, z4h, z4i, z4j, z4k, z4l, z4p, z4q, z4r, z4s, z4t, z4u, z4w, z4x, z4y, z50, z53, z7k, z7m, z86, Nat.reduceSub, tRowx34, tSlix34]
    refine al_kops (copy_al (e := R85) (o := o) (b := k.size) tRowx34 (by kernel_rfl) rfl (by decide) ((Rp.slice R85).mono r0 (fun _ h => h) id (Fr.of fun b hb => get_push_ne (by have := hp b hb; omega))) (by first | omega | (simp only [Hp.size_push, Hp.size_setB, Hp.ro_push, Hp.ro_setB]; omega)) (by simp (maxDischargeDepth := 16) only [z34, ↓reduceIte]) (by first | omega | (simp only [Hp.size_push, Hp.size_setB, Hp.ro_push, Hp.ro_setB]; omega)) (fun c hc => by have := hp c hc; simp only [Hp.size_push]; omega) (fun h => by have := hp _ h; omega) (by omega) (by unfold capOpen; omega)) ?_
    rintro w k' hk hr ⟨b', hb', hlt, ho⟩
    simp (maxDischargeDepth := 16) only [z05, z0d, z0e, z0o, z0p, z0q, z0s, z0t, z0v, z11, z3b, z3c, z3f, z4e, z4f, z4g, z4h, z4i, z4z]
    exact Al.done (Keeps.trans (by repeat (first | assumption | exact Keeps.refl _ | refine Keeps.push ?_ _ | refine Keeps.set ?_ (by first | omega | (simp only [Hp.size_push, Hp.size_setB]; omega)) _)) hk) hr ⟨some b', ho, fun b h => by cases h; rcases hb' with rfl | rfl <;> simp⟩
theorem run93 {I : Intr} (hI : I 93 = none) {N : Nat} (hN : 0 < N) {k : Hp} {v : Value} {xs : T45} {o : Bool} {p : Nat → Prop} (r : R43.r o p k [v] xs) (hp : ∀ b, p b → b < k.size) (hro : k.ro ≤ k.size) (hl : xs.length ≤ 1000) :
    Al k (fun k' w => ∃ u b, w = .agg #[u] ∧ OwnS R139 o p k' u (some b) xs ∧ k.size ≤ b) (evalV Try.prog I N (.fn 93) #[.agg #[v]] k) := by
  obtain ⟨N, rfl⟩ : ∃ n, N = n + 1 := ⟨N - 1, by omega⟩
  have r0 := r
  obtain ⟨a, c, rfl, -, hc⟩ := slice_form r
  rw [evalV_call (P := Try.prog) (intr := I) (f := 93) (m := 8) (rs := #[.cell 2 45]) hI Try.func93 rfl rfl rfl]
  simp (maxDischargeDepth := 16) only [z08, z09, z0d, z0e, z0p, z0q, z0s, z0t, z0v, z0z, z16, z1e, z1g, z1h, z1i, z1m, z1v, z2o, z2w, z2x, z2z, z34, z38, z39, z3a, z3b, z4a, z4e, z4f, z4g, z4h, z4i, z4j, z4k, z4l, z4m, z4n, z4p, z4q, z4r, z4s, z4t, z4u, z4w, z4x, z4y, z4z, z50, z51, z53, z54, z86, Nat.reduceEqDiff, Nat.reduceAdd, Nat.reduceSub, ↓reduceIte, Hp.cell, tFieldAx45x0, tPartx43, tRowx43, tZerox45]
  refine al_kops (copy_al (e := R139) (o := o) (b := k.size + 2) tRowx43 (by kernel_rfl) rfl (by decide) ((Rp.slice R139).mono r0 (fun _ h => h) id (Fr.of fun b hb => by have := hp b hb; rw [get_push_ne (by first | omega | (simp only [Hp.size_push, Hp.size_setB, Hp.ro_push, Hp.ro_setB]; omega)), get_push_ne (by first | omega | (simp only [Hp.size_push, Hp.size_setB, Hp.ro_push, Hp.ro_setB]; omega)), get_push_ne (by omega)])) (by first | omega | (simp only [Hp.size_push, Hp.size_setB, Hp.ro_push, Hp.ro_setB]; omega)) (by simp (maxDischargeDepth := 16) only [z34, z3a, z4a, Nat.reduceAdd, ↓reduceIte]) (by simp only [Hp.ro_push]; omega) (fun c hc => by have := hp c hc; simp only [Hp.size_push]; omega) (fun h => by have := hp _ h; omega) (by omega) (by unfold capOpen; omega)) ?_
  rintro w k' hk hr ⟨b', hb', hlt, ho⟩
  obtain ⟨c', rfl⟩ := ho.form
  have g1 := hk.get (k.size + 1) (by first | omega | (simp only [Hp.size_push, Hp.size_setB, Hp.ro_push, Hp.ro_setB]; omega))
  simp (maxDischargeDepth := 16) only [z34, z36, z3a, z4a, z4c, Nat.reduceEqDiff, Nat.reduceAdd, ↓reduceIte] at g1 hr
  have hs := hk.size
  simp only [Hp.size_push] at hs
  have h1 : (k'.ro ≤ k.size + 1) = True := by rw [hr]; exact ro_le hro
  have hkk : Keeps k k' := Keeps.trans (by repeat (first | assumption | exact Keeps.refl _ | refine Keeps.push ?_ _ | refine Keeps.set ?_ (by first | omega | (simp only [Hp.size_push, Hp.size_setB]; omega)) _)) hk
  have hb2 : k.size + 2 ≤ b' := by rcases hb' with rfl | rfl; exact Nat.le_refl _; (simp only [Hp.size_push]; omega)
  simp (maxDischargeDepth := 16) only [z05, z0d, z0e, z0o, z0p, z0q, z0s, z0t, z0u, z0v, z0z, z1b, z1f, z1w, z1x, z2o, z2q, z2x, z2y, z33, z3b, z3c, z3g, z3s, z3v, z3w, z3x, z3y, z3z, z41, z43, z44, z45, z46, z49, z4e, z4f, z4g, z4h, z4i, z4j, z4k, z4l, z4p, z4q, z4r, z4z, z50, z51, z53, z5f, z72, z80, z81, z82, z83, Nat.reduceSub, ↓reduceIte, Hp.row, Hp.wr, tBuildFx45x0, tBuildOkx45, tPartx45, tSizex45, tZerox45, g1, h1]
  refine Al.done (by repeat (first | assumption | exact Keeps.refl _ | refine Keeps.push ?_ _ | refine Keeps.set ?_ (by first | omega | (simp only [Hp.size_push, Hp.size_setB]; omega)) _)) hr ⟨_, b', rfl, ho.mono (by simp) (Fr.of fun b hb => get_set_ne (by have := hp b hb; omega)) (fun b h => by cases h; exact get_set_ne (by omega)), by omega⟩
theorem run64 {I : Intr} (hI : I 64 = none) {N : Nat} (hN : 0 < N) {k : Hp} {cs : List Value} {x : T33} {o : Bool} {p : Nat → Prop} (r : R33.r o p k cs x) (hp : ∀ b, p b → b < k.size) (hro : k.ro ≤ k.size) (hl : x.2.1.length ≤ 1000) :
    Al k (fun k' v => ∃ ds, v = .agg ds.toArray ∧ R33.r true (fr k k') k' ds x) (evalV Try.prog I N (.fn 64) #[.agg cs.toArray] k) := by
  obtain ⟨n, rfl⟩ : ∃ n, N = n + 1 := ⟨N - 1, by omega⟩
  obtain ⟨v1, rfl, b1, b2, hv, b3⟩ := R33_inv r
  rw [evalV_call (P := Try.prog) (intr := I) (f := 64) (m := 11) (rs := #[.cell 2 33]) hI Try.func64 rfl rfl rfl]
  have hv0 := hv
  obtain ⟨a, c, rfl, -, _⟩ := slice_form hv
  simp (maxDischargeDepth := 16) only [z08, z09, z0d, z0e, z0p, z0q, z0s, z0t, z0v, z0z, z16, z1e, z1g, z1h, z1i, z1m, z1v, z2o, z2w, z2x, z2z, z34, z38, z39, z3a, z3b, z4a, z4e, z4f, z4g, z4h, z4i, z4j, z4k, z4l, z4m, z4n, z4o, z4p, z4q, z4r, z4s, z4t, z4u, z4w, z4x, z4y, z4z, z50, z51, z53, z54, z86, Nat.reduceEqDiff, Nat.reduceAdd, Nat.reduceSub, ↓reduceIte, Hp.cell, tFieldAx27x0, tFieldAx33x1, tPartx25, tRowx25, tZerox33, ro_le hro]
  refine al_kops (copy_al (e := R61) (o := o) (b := k.size + 2) tRowx25 (by kernel_rfl) rfl (by decide) ((Rp.slice R61).mono hv0 (fun _ h => h) id (Fr.of fun b hb => by have := hp b hb; rw [get_push_ne (by first | omega | (simp only [Hp.size_push, Hp.size_setB, Hp.ro_push, Hp.ro_setB]; omega)), get_push_ne (by first | omega | (simp only [Hp.size_push, Hp.size_setB, Hp.ro_push, Hp.ro_setB]; omega)), get_push_ne (by omega)])) (by first | omega | (simp only [Hp.size_push, Hp.size_setB, Hp.ro_push, Hp.ro_setB]; omega)) (by simp (maxDischargeDepth := 16) only [z34, z3a, z4a, Nat.reduceAdd, ↓reduceIte]) (by simp only [Hp.ro_push]; omega) (fun c hc => by have := hp c hc; simp only [Hp.size_push]; omega) (fun h => by have := hp _ h; omega) (by omega) (by unfold capOpen; omega)) ?_
  rintro v k' hk hr ⟨b', hb', hlt, ho⟩
  obtain ⟨c', rfl⟩ := ho.form
  have hkk : Keeps k k' := Keeps.trans (by repeat (first | assumption | exact Keeps.refl _ | refine Keeps.push ?_ _ | refine Keeps.set ?_ (by first | omega | (simp only [Hp.size_push, Hp.size_setB]; omega)) _)) hk
  have g0 := hk.get k.size (by first | omega | (simp only [Hp.size_push, Hp.size_setB, Hp.ro_push, Hp.ro_setB]; omega))
  have g1 := hk.get (k.size + 1) (by first | omega | (simp only [Hp.size_push, Hp.size_setB, Hp.ro_push, Hp.ro_setB]; omega))
  simp (maxDischargeDepth := 16) only [z34, z36, z38, z39, z3a, z4a, z4c, Nat.reduceEqDiff, Nat.reduceAdd, ↓reduceIte] at g0 g1 hr
  have hs := hk.size
  simp only [Hp.size_push] at hs
  have h0 : (k'.ro ≤ k.size) = True := by rw [hr]; exact eq_true hro
  have h1 : (k'.ro ≤ k.size + 1) = True := by rw [hr]; exact ro_le hro
  have hb2 : k.size + 2 ≤ b' := by rcases hb' with rfl | rfl; exact Nat.le_refl _; (simp only [Hp.size_push]; omega)
  simp (maxDischargeDepth := 16) only [z05, z08, z09, z0d, z0e, z0o, z0p, z0q, z0s, z0t, z0u, z0v, z0z, z16, z1b, z1e, z1f, z1v, z1w, z1x, z2o, z2q, z2w, z2x, z2y, z33, z35, z37, z39, z3b, z3c, z3g, z3p, z3s, z3v, z3w, z3x, z3y, z3z, z41, z43, z44, z45, z46, z49, z4d, z4e, z4f, z4g, z4h, z4i, z4j, z4k, z4l, z4p, z4q, z4r, z4z, z50, z51, z53, z5f, z72, z80, z81, z82, z83, Nat.reduceLeDiff, Nat.reduceAdd, Nat.reduceSub, ↓reduceIte, Hp.row, Hp.wr, tBuildFx27x0, tBuildOkx27, tFieldAx33x1, tPartx33, tSizex27, tSizex33, tZerox27, g0, g1, h0, h1]
  have hr1 := (ho.flat (p' := fun _ => False) (o' := true) (by simp)).rp (q := (· = b')) (fun _ h => h.elim) (fun b h => by cases h; rfl)
  exact Al.done (by repeat (first | assumption | exact Keeps.refl _ | refine Keeps.push ?_ _ | refine Keeps.set ?_ (by first | omega | (simp only [Hp.size_push, Hp.size_setB]; omega)) _)) hr ⟨_, rfl, R33_mk (x := x) b1 b2 ((Rp.slice R61).mono hr1 (fun b h => by subst h; exact ⟨by omega, by simpa using hlt⟩) id (Fr.of fun b h => by subst h; rw [get_set_ne (by omega), get_set_ne (by omega)])) b3.1 b3.2.1 b3.2.2.1 b3.2.2.2.1 b3.2.2.2.2.1 b3.2.2.2.2.2⟩
end Go.Abs.B1
