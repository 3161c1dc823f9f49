/- Ships: entries in memory of their own. -/
import Derived.Test.YtnlhfcipapbfmaaSh10
namespace Go.Abs.B1
open Go.Proofs
set_option maxRecDepth 10000
set_option maxHeartbeats 1000000
set_option linter.all false
def cutE (e : T85) : T85 := (e.1, e.2.1, e.2.2.1, e.2.2.2.take 9)
theorem run54 {I : Intr} (hI : I 54 = none) {N : Nat} {k : Hp} {v : Value} {xs : T34} {p : Nat → Prop} (r : R34.r false p k [v] xs) (hp : ∀ b, p b → b < k.size) (hro : k.ro ≤ k.size) (hN : xs.length + 1 < N) (n : Nat) (hn : n ≤ 1000) :
    Al k (fun k' w => Acc R85 k.size k' w ((xs.take n).map cutE)) (evalV Try.prog I N (.fn 54) #[v, .int .i64 (n : Int)] k) := by
  obtain ⟨N, rfl⟩ : ∃ n, N = n + 1 := ⟨N - 1, by omega⟩
  obtain ⟨a, c, rfl, -, hl⟩ := slice_form r
  unfold capOpen at hl
  rw [evalV_call (P := Try.prog) (intr := I) (f := 54) (m := 37) (rs := #[.tmp 4]) hI Try.func54 rfl rfl rfl]
  simp (maxDischargeDepth := 16) only [z08, z09, z0d, z0e, z0p, z0q, z0s, z0t, z0v, z0w, z0z, z10, z11, z1p, z1r, z3b, z4e, z4f, z4g, z4h, z4i, z4p, z4q, z4r, z4s, z4t, z4u, z4w, z4x, z4y, z53, evalC_block, Nat.reduceAdd, Nat.reduceSub, tLenx34]
  refine loop_rule (Al k _) (fun m x k' => ∃ (i : Nat) (w : Value), m = xs.length - i ∧ i ≤ xs.length ∧ Keeps k k' ∧ k'.ro = k.ro ∧ Acc R85 k.size k' w ((xs.take (min i n)).map cutE) ∧
    x.tmps.size = 37 ∧ x.defers = [] ∧ x.tmps.getD 0 undef = .slice a xs.length c ∧ x.tmps.getD 1 undef = .int .i64 (n : Int) ∧ x.tmps.getD 5 undef = w ∧ x.tmps.getD 8 undef = .slice a xs.length c ∧ x.tmps.getD 9 undef = .int .i64 (xs.length : Int) ∧ x.tmps.getD 10 undef = .int .i64 (i : Int)) ?_ _ xs.length _ _ ?_ ?_
  · intro m n' x k' hI' ih
    obtain ⟨i, w, hm, hi, hk, hr, ha, hxs, hxd, l0, l1, l5, l8, l9, l10⟩ := hI'
    obtain ⟨g, rfl⟩ : ∃ g : Nat → Value, x = { tmps := #[.slice a xs.length c, .int .i64 (n : Int), g 2, g 3, g 4, w, g 6, g 7, .slice a xs.length c, .int .i64 (xs.length : Int), .int .i64 (i : Int), g 11, g 12, g 13, g 14, g 15, g 16, g 17, g 18, g 19, g 20, g 21, g 22, g 23, g 24, g 25, g 26, g 27, g 28, g 29, g 30, g 31, g 32, g 33, g 34, g 35, g 36], defers := [] } := ⟨fun k => x.tmps.getD k undef, (act_eta hxs hxd).trans (by simp only [unrollL, Nat.reduceAdd, Nat.zero_add, l0, l1, l5, l8, l9, l10])⟩; clear hxs hxd l0 l1 l5 l8 l9 l10
    by_cases hlt : i < xs.length
    · have hlt' : (i : Int) < (xs.length : Int) := by omega
      obtain ⟨q1, q2, q3⟩ : m - 1 < m ∧ m - 1 = xs.length - (i + 1) ∧ i + 1 ≤ xs.length := by clear ih; omega
      obtain ⟨y, hy⟩ : ∃ y, xs[i]? = some y := ⟨_, List.getElem?_eq_getElem hlt⟩
      obtain ⟨b, off, _, cells, ow, part, e, hb0, hg, -, hp', hle, hex, -⟩ := elem_at (s := 4) r hy rfl (by decide)
      cases e
      have hb : b < k.size := hp b hb0
      obtain ⟨y1, y2, y3, y4⟩ := y
      obtain ⟨u, rfl, d1, d2, d3, hu⟩ := R85_inv hp'
      dsimp only at hu d1 d2 d3
      have hs := hk.size
      have hb' : b < k'.size := by omega
      have hg' : k'.get b = some (.cells cells ow) := by rw [hk.get b hb]; exact hg
      have hnn : (0 ≤ (i : Int)) = True := by simp
      have w3 : IntKind.i64.wrap ((i : Int) + 1) = ((i + 1 : Nat) : Int) := by rw [i64_in] <;> omega
      have r0 : (k'.ro ≤ k'.size) = True := by rw [hr]; simp; omega
      have r1 : ∀ j, (k'.ro ≤ k'.size + j) = True := fun j => by rw [hr]; simp; omega
      have s1 : ∀ j, (k.size ≤ k'.size + j) = True := fun j => by simp; omega
      obtain ⟨o, n0, rfl⟩ : ∃ o n0, u = .slice o y4.length n0 := by obtain ⟨_, _, e, _⟩ := slice_form hu; exact ⟨_, _, e⟩
      by_cases hin : i < n
      · have hin' : (i : Int) < (n : Int) := by omega
        obtain ⟨j, hj, hj2⟩ : ∃ j : Nat, min (y4.length : Int) 9 = (j : Int) ∧ j = min y4.length 9 := ⟨min y4.length 9, by omega, rfl⟩
        have hcut : ∀ k2, Keeps k k2 → aSlice Try.prog 43 (.slice o y4.length n0) none (some (.int .i64 (j : Int))) none k2 = some (cutV (.slice o y4.length n0) 0 j 22, k2) ∧ R43.r false p k2 [cutV (.slice o y4.length n0) 0 j 22] (y4.take j) := fun k2 hk2 =>
          cut_rp (P := Try.prog) (t := 43) (e := R139) (lov := none) (hiv := some (.int .i64 (j : Int))) (l := 0) (hh := j) ((Rp.slice R139).mono hu (fun _ h => h) id (hk2.fr hp)) tElemx43 (by decide) rfl ⟨_, rfl⟩ (by omega) (by omega) (.inl rfl)
        have hc1 := fun k2 hk2 => (hcut k2 hk2).1
        simp (maxDischargeDepth := 16) only [z04, z08, z09, z0a, z0b, z0d, z0e, z0p, z0q, z0s, z0t, z0u, z0v, z0w, z0z, z10, z11, z13, z16, z18, z1e, z1f, z1g, z1i, z1k, z1m, z1p, z1r, z1u, z1v, z1w, z1x, z1z, z2d, z2l, z2o, z2u, z2w, z2x, z2y, z2z, z33, z34, z38, z39, z3a, z3b, z3p, z3s, z3v, z3w, z44, z45, z46, z49, z4a, z4b, z4c, z4e, z4f, z4g, z4h, z4i, z4j, z4k, z4l, z4m, z4n, z4o, z4p, z4q, z4r, z4z, z50, z51, z53, z54, z5a, z5f, z72, z7w, z7x, z86, z87, evalC_block, Nat.reduceAdd, ↓reduceIte, Hp.cell, Hp.row, Hp.wr, tElemx34, tFieldAx45x0, tFieldAx85x3, tLenx43, tPartx43, tPartx85, tRowx43, tSizex85, tZerox85, hlt', hnn, hg', ne_f hb', ne_f0 hb', lt_t hb', lt_t0 hb', hle, hex, Int.toNat_natCast, r0, hin', hj, hc1, hk, hs]
        have hk1 : Keeps k ((k'.push (some (.cells #[.int .u64 0, .int .i64 0, .int .u32 0, .slice none 0 0] true))).setB k'.size (some (.cells #[.int .u64 y1, .int .i64 y2, .int .u32 y3, .slice o y4.length n0] true))) := (by repeat (first | assumption | exact Keeps.refl _ | refine Keeps.push ?_ _ | refine Keeps.set ?_ (by first | omega | (simp only [Hp.size_push, Hp.size_setB]; omega)) _))
        refine al_kops (copy_al (e := R139) (o := false) (b := k'.size + 1) tRowx43 (by kernel_rfl) rfl (by decide) (hcut _ (by repeat (first | assumption | exact Keeps.refl _ | refine Keeps.push ?_ _ | refine Keeps.set ?_ (by first | omega | (simp only [Hp.size_push, Hp.size_setB]; omega)) _))).2 (by first | omega | (simp only [Hp.size_push, Hp.size_setB, Hp.ro_push, Hp.ro_setB]; omega)) (by simp (maxDischargeDepth := 16) only [z34, z4a, z4b, ↓reduceIte]) (by simp only [Hp.ro_push, Hp.ro_setB]; omega) (fun c hc => by have := hp c hc; simp only [Hp.size_push, Hp.size_setB]; omega) (fun h => by have := hp _ h; omega) (by rw [List.length_take]; omega) (by rw [List.length_take]; unfold capOpen; omega)) ?_
        rintro v2 k2 hk2 hr2 ⟨b2, hb2, hlt2, ho⟩
        obtain ⟨c2, rfl⟩ := ho.form
        have g0 := hk2.get k'.size (by first | omega | (simp only [Hp.size_push, Hp.size_setB, Hp.ro_push, Hp.ro_setB]; omega))
        simp (maxDischargeDepth := 16) only [z33, z34, z38, z39, z4a, z4b, z4c, z4d, ↓reduceIte] at g0 hr2
        have hj9 : y4.take j = y4.take 9 := by rw [hj2, Nat.min_comm, ← List.take_eq_take_min]
        rw [hj9] at ho ⊢
        have hk3 : Keeps k' k2 := Keeps.trans (by repeat (first | assumption | exact Keeps.refl _ | refine Keeps.push ?_ _ | refine Keeps.set ?_ (by first | omega | (simp only [Hp.size_push, Hp.size_setB]; omega)) _)) hk2
        have hs2 := hk2.size
        simp only [Hp.size_push, Hp.size_setB] at hs2
        have hb22 : k'.size + 1 ≤ b2 := by rcases hb2 with rfl | rfl; exact Nat.le_refl _; (simp only [Hp.size_push, Hp.size_setB]; omega)
        have s0 : (k2.ro ≤ k'.size) = True := by rw [hr2, hr]; simp; omega
        have s2 : (k'.size = k2.size) = False := by simp; omega
        simp (maxDischargeDepth := 16) only [z08, z0d, z0e, z0p, z0q, z0s, z0t, z0u, z0v, z0z, z10, z16, z1b, z1e, z1f, z1i, z1m, z1v, z1w, z1x, z2o, z2q, z2w, z2x, z2y, z33, z3b, z3s, z3v, z3w, z3x, z3y, z3z, z41, z43, z44, z45, z46, z49, z4b, z4e, z4f, z4g, z4h, z4i, z4j, z4k, z4l, z4p, z4q, z4r, z4z, z50, z51, z53, z5f, z72, z7d, z80, z81, z82, z83, z88, Nat.reduceLeDiff, Nat.reduceAdd, Nat.reduceSub, ↓reduceIte, Hp.row, Hp.wr, tBuildFx45x0, tBuildOkx45, tFieldAx85x3, tPartx85, tRowx34, tSizex45, tZerox45, g0, s0]
        have hk4 : Keeps k' ((k2.setB k'.size (some (.cells #[.int .u64 y1, .int .i64 y2, .int .u32 y3, .slice (some ⟨b2, 0, none⟩) (y4.take 9).length c2] true))).push (some (.cells #[.int .u64 y1, .int .i64 y2, .int .u32 y3, .slice (some ⟨b2, 0, none⟩) (y4.take 9).length c2] true))) := (by repeat (first | assumption | exact Keeps.refl _ | refine Keeps.push ?_ _ | refine Keeps.set ?_ (by first | omega | (simp only [Hp.size_push, Hp.size_setB]; omega)) _))
        have hr1 := ((ho.flat (p' := fun _ => False) (o' := true) (by simp)).rp (q := (· = b2)) (fun _ h => h.elim) (fun b h => by cases h; rfl))
        refine ex_kops (Acc.append1 (e := R85) tRowx34 (by kernel_rfl) rfl (by decide) (ha.mono hk4) (by simp only [Hp.ro_push, Hp.ro_setB]; omega) (q := (· = b2)) (x := cutE (y1, y2, y3, y4)) (lit := k2.size)
          (R85_mk (x := cutE (y1, y2, y3, y4)) d1 d2 d3 ((Rp.slice R139).mono hr1 (fun _ h => h) id (Fr.of fun b h => by subst h; rw [get_push_ne (by simp only [Hp.size_setB]; omega), get_set_ne (by omega)])))
          (by simp (maxDischargeDepth := 16) only [z34, z4b, ↓reduceIte]; rfl) ⟨by omega, by simp only [Hp.size_push, Hp.size_setB]; omega, fun h => by have := (ha.blk h).2; omega⟩ (fun c hc => by subst hc; exact ⟨by omega, by simp only [Hp.size_push, Hp.size_setB]; omega, fun h => by have := (ha.blk h).2; omega⟩) (by simp only [List.length_map, List.length_take]; omega) (by simp only [List.length_map, List.length_take]; unfold capOpen; omega)) ?_
        rintro v5 k5 ⟨ha5, hs5, hr5, hg5, -⟩
        simp (maxDischargeDepth := 16) only [z08, z0d, z0e, z0h, z0k, z0p, z0q, z0s, z0t, z0v, z0w, z0z, z10, z11, z13, z24, z3b, z4e, z4f, z4g, z4h, z4i, w3]
        refine ih (m - 1) _ _ q1 ⟨i + 1, v5, q2, q3, ⟨?_, fun b hb => ?_⟩, ?_, ?_, rfl, rfl, rfl, rfl, rfl, rfl, rfl, rfl⟩
        · simp only [Hp.size_push, Hp.size_setB] at hs5; omega
        · rw [hg5 b (by simp only [Hp.size_push, Hp.size_setB]; omega) (fun h => by have := (ha.blk h).1; omega), get_push_ne (by simp only [Hp.size_setB]; omega), get_set_ne (by omega), hk3.get b (by omega), hk.get b hb]
        · rw [hr5]; simp only [Hp.ro_push, Hp.ro_setB]; rw [hr2, hr]
        · rw [take_next hy hin] at ha5
          exact ha5
      · have hin' : ¬ (i : Int) < (n : Int) := by omega
        simp (maxDischargeDepth := 16) only [z04, z08, z09, z0a, z0b, z0c, z0d, z0e, z0h, z0k, z0p, z0q, z0s, z0t, z0u, z0v, z0w, z0z, z10, z11, z13, z18, z1e, z1f, z1g, z1v, z1w, z1x, z1z, z24, z2d, z2o, z2u, z2x, z2y, z2z, z34, z3a, z3b, z3p, z3s, z3v, z3w, z44, z45, z46, z49, z4c, z4e, z4f, z4g, z4h, z4i, z4p, z4q, z4r, z4z, z50, z51, z53, z5a, z5b, z5f, z72, evalC_block, Nat.reduceAdd, ↓reduceIte, Hp.row, Hp.wr, tElemx34, tPartx85, tSizex85, tZerox85, hlt', hnn, hg', ne_f hb', ne_f0 hb', lt_t hb', lt_t0 hb', hle, hex, Int.toNat_natCast, r0, hin', w3]
        have hk1 : Keeps k' ((k'.push (some (.cells #[.int .u64 0, .int .i64 0, .int .u32 0, .slice none 0 0] true))).setB k'.size (some (.cells #[.int .u64 y1, .int .i64 y2, .int .u32 y3, .slice o y4.length n0] true))) := (by repeat (first | assumption | exact Keeps.refl _ | refine Keeps.push ?_ _ | refine Keeps.set ?_ (by first | omega | (simp only [Hp.size_push, Hp.size_setB]; omega)) _))
        refine ih (m - 1) _ _ q1 ⟨i + 1, w, q2, q3, hk.trans hk1, hr, ?_, rfl, rfl, rfl, rfl, rfl, rfl, rfl, rfl⟩
        have := ha.mono hk1
        rw [Nat.min_eq_right (by omega)] at this ⊢
        exact this
    · have hlt' : ¬ (i : Int) < (xs.length : Int) := by omega
      have : i = xs.length := by omega
      subst this
      simp (maxDischargeDepth := 16) only [z05, z06, z08, z09, z0a, z0c, z0d, z0e, z0g, z0j, z0m, z0o, z0p, z0q, z0s, z0t, z0v, z0z, z10, z11, z13, z2d, z3b, z3c, z3f, z4e, z4f, z4g, z4h, z4i, z4z, z5b, ↓reduceIte, hlt']
      refine Al.done hk hr ?_
      have : xs.take (min xs.length n) = xs.take n := by rw [Nat.min_comm, ← List.take_eq_take_min]
      rwa [this] at ha
  · omega
  · exact ⟨0, .slice none 0 0, by omega, by omega, Keeps.refl _, rfl, by simpa using Acc.nil, rfl, rfl, rfl, rfl, rfl, rfl, rfl, rfl⟩
end Go.Abs.B1
