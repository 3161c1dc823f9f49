/- Ships: entries by the document; owned entries; views. -/
import Derived.Test.YtnlhfcipapbfmaaSh14
namespace Go.Abs.B1
open Go.Proofs
set_option maxRecDepth 10000
set_option maxHeartbeats 4000000
set_option linter.all false
theorem run65 {I : Intr} (hI : I 65 = none) (hI93 : I 93 = none) {N : Nat} {k : Hp} {v : Value} {xs : T34} {o0 : Bool} {p : Nat → Prop} (r : R34.r o0 p k [v] xs) (hp : ∀ b, p b → b < k.size) (hro : k.ro ≤ k.size) (hN : xs.length + 2 < N) (hl : xs.length ≤ 1000) (hl2 : ∀ x ∈ xs, x.2.2.2.length ≤ 1000) :
    Al k (fun k' w => Acc R85 k.size k' w xs) (evalV Try.prog I N (.fn 65) #[v] k) := by
  obtain ⟨N, rfl⟩ : ∃ n, N = n + 1 := ⟨N - 1, by omega⟩
  obtain ⟨a, c, rfl, -, _⟩ := slice_form r
  rw [evalV_call (P := Try.prog) (intr := I) (f := 65) (m := 27) (rs := #[.tmp 2]) hI Try.func65 rfl rfl rfl]
  simp (maxDischargeDepth := 16) only [z08, z09, z0d, z0e, z0p, z0q, z0s, z0t, z0v, z0w, z0z, z10, z11, z1p, z1r, z3b, z4e, z4f, z4g, z4h, z4i, z4p, z4q, z4r, z4s, z4t, z4u, z4w, z4x, z4y, z53, evalC_block, Nat.reduceSub, tLenx34]
  refine loop_rule (Al k _) (fun m x k' => ∃ (i : Nat) (w : Value), m = xs.length - i ∧ i ≤ xs.length ∧ Keeps k k' ∧ k'.ro = k.ro ∧ Acc R85 k.size k' w (xs.take i) ∧
    x.tmps.size = 27 ∧ x.defers = [] ∧ x.tmps.getD 3 undef = w ∧ x.tmps.getD 6 undef = .slice a xs.length c ∧ x.tmps.getD 7 undef = .int .i64 (xs.length : Int) ∧ x.tmps.getD 8 undef = .int .i64 (i : Int)) ?_ _ xs.length _ _ ?_ ?_
  · intro m n' x k' hI' ih
    obtain ⟨i, w, hm, hi, hk, hr, ha, hxs, hxd, l3, l6, l7, l8⟩ := hI'
    obtain ⟨g, rfl⟩ : ∃ g : Nat → Value, x = { tmps := #[g 0, g 1, g 2, w, g 4, g 5, .slice a xs.length c, .int .i64 (xs.length : Int), .int .i64 (i : Int), g 9, g 10, g 11, g 12, g 13, g 14, g 15, g 16, g 17, g 18, g 19, g 20, g 21, g 22, g 23, g 24, g 25, g 26], defers := [] } := ⟨fun k => x.tmps.getD k undef, (act_eta hxs hxd).trans (by simp only [unrollL, Nat.reduceAdd, Nat.zero_add, l3, l6, l7, l8])⟩; clear hxs hxd l3 l6 l7 l8
    by_cases hlt : i < xs.length
    · have hlt' : (i : Int) < (xs.length : Int) := by omega
      obtain ⟨q1, q2, q3⟩ : m - 1 < m ∧ m - 1 = xs.length - (i + 1) ∧ i + 1 ≤ xs.length := by clear ih; omega
      obtain ⟨y, hy⟩ : ∃ y, xs[i]? = some y := ⟨_, List.getElem?_eq_getElem hlt⟩
      have hy1000 := hl2 y (List.mem_of_getElem? hy)
      obtain ⟨b, off, _, cells, ow, part, e, hb0, hg, -, hp', hle, hex, -⟩ := elem_at (s := 4) r hy rfl (by decide)
      cases e
      have hb : b < k.size := hp b hb0
      obtain ⟨y1, y2, y3, y4⟩ := y
      obtain ⟨u, rfl, d1, d2, d3, hu⟩ := R85_inv hp'
      dsimp only at hu d1 d2 d3 hy1000
      have hs := hk.size
      have hb' : b < k'.size := by omega
      have hg' : k'.get b = some (.cells cells ow) := by rw [hk.get b hb]; exact hg
      have hnn : (0 ≤ (i : Int)) = True := by simp
      have w3 : IntKind.i64.wrap ((i : Int) + 1) = ((i + 1 : Nat) : Int) := by rw [i64_in] <;> omega
      have r0 : (k'.ro ≤ k'.size) = True := by rw [hr]; simp; omega
      have r1 : ∀ j, (k'.ro ≤ k'.size + j) = True := fun j => by rw [hr]; simp; omega
      have s1 : ∀ j, (k.size ≤ k'.size + j) = True := fun j => by simp; omega
      have o1 : oneC u = true := R43.rone hu u (by simp)
      have vo := fun kept bits => vb_old (s0 := k'.size + 1) (kept := kept) (bits := bits) (vin_mono (fun b hb => by have := hp b hb; omega) (R43.rvin hu u (by simp)))
      have vow : ∀ kept bits, vokB (allow (k'.size + 1) kept bits) w = true := fun kept bits => vb_old (vin_mono (fun b hb => by omega) ((Rp.slice R85).rvin ha.rp w (by simp)))
      simp (maxDischargeDepth := 16) only [z04, z08, z09, z0a, z0b, z0d, z0e, z0p, z0q, z0s, z0t, z0u, z0v, z0z, z13, z18, z1e, z1f, z1g, z1v, z1w, z1x, z1z, z2d, z2o, z2u, z2x, z2y, z2z, z34, z3a, z3b, z3p, z3v, z3w, z44, z45, z46, z49, z4c, z4e, z4f, z4g, z4h, z4i, z4p, z4q, z4r, z4z, z50, z51, z53, z5a, z5f, z72, z7t, evalC_block, Nat.reduceAdd, ↓reduceIte, Hp.row, Hp.wr, tElemx34, tPartx85, tSizex85, tZerox85, hlt', hnn, hg', ne_f hb', ne_f0 hb', lt_t hb', lt_t0 hb', hle, hex, Int.toNat_natCast, r0, o1]
      rw [evalDraw_modes _ _ [(0, 0, 1), (0, 0, 2), (2, 2, 6), (0, 0, 8), (2, 8, 24), (0, 0, 32), (2, 32, 96), (0, 0, 128), (2, 128, 384), (2, 384, 896), (0, 1022, 2046), (1, 2046, 4094), (1, 4095, 8191), (0, 8191, 16383)] (by kernel_rfl)]
      simp (maxDischargeDepth := 16) only [z0t, z0v, z0x, z0z, z10, z16, z1e, z1l, z1v, z2w, z2x, z33, z3b, z3h, z3x, z3y, z3z, z40, z41, z43, z44, z45, z46, z4a, z4b, z4e, z4f, z4g, z4h, z4i, z4j, z4k, z4l, z4m, z4n, z4o, z4p, z4q, z4r, z4s, z4u, z4v, z4z, z50, z51, z53, z54, z5a, z5f, z5j, z5l, z5u, z5x, z62, z6a, z6d, z6g, z6h, z6j, z6t, z6v, z6x, z70, z71, z7c, z7d, Nat.reduceAdd, Nat.reduceSub, ↓reduceIte, keepR, Hp.cell, Hp.row, hasBx93, tFieldAx85x0, tFieldAx85x1, tFieldAx85x2, tFieldAx85x3, tPartx3, tPartx22, tPartx28, tPartx45, vo, vow]
      refine al_kd2 (run93 hI93 (N := N) (by omega) (v := u) (p := p) (R43.mono hu (fun _ h => h) id ((view_keeps (by repeat (first | assumption | exact Keeps.refl _ | refine Keeps.push ?_ _ | refine Keeps.set ?_ (by first | omega | (simp only [Hp.size_push, Hp.size_setB]; omega)) _)) (by simp)).fr hp)) (fun b hb => by have := hp b hb; rw [view_size]; simp only [Hp.size_push, Hp.size_setB]; omega) (by rw [view_ro, view_size]; exact Nat.le_refl _) hy1000) ?_ (by decide) ?_
      · rintro v k1 hk1 ⟨u', b', rfl, ho, hb'⟩
        obtain ⟨c', rfl⟩ := ho.form
        exact vin_agg (ds := [_]) fun c hc => by
          simp only [List.mem_singleton] at hc
          subst hc
          exact vin_slice.2 (.inr ⟨by rw [view_size] at hb'; exact hb', ho.lt⟩)
      rintro v k1 m1 hk1 ⟨u', b', rfl, ho, hb2⟩ hm1 hm2 hm3 hm4
      obtain ⟨c', rfl⟩ := ho.form
      have hs1 := hk1.size
      rw [view_size] at hs1 hb2
      have g0 := hm3 k'.size (by first | omega | (simp only [Hp.size_push, Hp.size_setB, Hp.ro_push, Hp.ro_setB]; omega))
      simp (maxDischargeDepth := 16) only [z33, z4a, z4b, z4c, z4d] at g0 hm2 hs1 hb2
      have hlt1 := ho.lt
      have hr1 := ((ho.flat (p' := fun _ => False) (o' := true) (by simp)).rp (q := (· = b')) (fun _ h => h.elim) (fun b h => by cases h; rfl))
      have hr2 := R43.mono hr1 (fun _ h => h) id (hm4 (by simp [flatB]) (· = b') (fun b h => by subst h; exact ⟨hlt1, .inr (by simp only [Hp.size_push, Hp.size_setB]; omega)⟩))
      have al9 : ∀ bits : Nat, bits.testBit 9 = true → allow (k'.size + 1) (keepS 9 (k'.size + 1) k1.size []) bits b' = true := fun bits hb => allow_own (by omega) hlt1 hb
      have al9' : ∀ bits : Nat, decide (bits / 2 ^ 9 % 2 = 1) = true → allow (k'.size + 1) (keepS 9 (k'.size + 1) k1.size []) bits b' = true := fun bits hb => al9 bits (by rw [tb]; exact hb)
      have hkm : Keeps k' m1 := keeps_of (k := (k'.push _).setB k'.size _) (by repeat (first | assumption | exact Keeps.refl _ | refine Keeps.push ?_ _ | refine Keeps.set ?_ (by first | omega | (simp only [Hp.size_push, Hp.size_setB]; omega)) _)) (by simp only [Hp.size_push, Hp.size_setB]; omega) hm3
      simp (maxDischargeDepth := 16) only [z0t, z0v, z0z, z1b, z1i, z1m, z2m, z2o, z38, z39, z3b, z3v, z3w, z44, z45, z46, z49, z4a, z4b, z4e, z4f, z4g, z4h, z4i, z4j, z4k, z4l, z4p, z4q, z4r, z4z, z50, z51, z53, z5a, z5f, z5g, z5j, z5n, z5u, z5w, z62, z6b, z6d, z6g, z6i, z6p, z6t, z6y, z6z, z72, z74, z75, z76, z7b, z7c, z7d, z80, z81, z82, z83, z88, Nat.reduceLeDiff, Nat.reduceAdd, ↓reduceIte, Nat.reduceDiv, Nat.reduceMod, Nat.reducePow, keepR, tBuildFx85x0, tBuildFx85x1, tBuildFx85x2, tBuildFx85x3, tBuildOkx85, tRowx34, tZerox85, al9']
      have hlw : ∀ c, blkOf w = some c → c < k'.size := fun c hc => (ha.blk hc).2
      have hwne : ∀ c, k'.size ≤ c → blkOf w ≠ some c := fun c hc h => by have := hlw c h; omega
      have hk1 : Keeps k' (m1.push (some (.cells #[.int .u64 y1, .int .i64 y2, .int .u32 y3, .slice (some ⟨b', 0, none⟩) y4.length c'] true))) := (by repeat (first | assumption | exact Keeps.refl _ | refine Keeps.push ?_ _ | refine Keeps.set ?_ (by first | omega | (simp only [Hp.size_push, Hp.size_setB]; omega)) _))
      refine Acc.append_kdt (e := R85) (lo := k.size) (xs := xs.take i) (x := (y1, y2, y3, y4)) (q := (· = b')) (cs := #[.int .u64 y1, .int .i64 y2, .int .u32 y3, .slice (some ⟨b', 0, none⟩) y4.length c']) tRowx34 (by kernel_rfl) rfl (by decide) (ha.mono hk1) (by simp only [Hp.ro_push]; omega) (by simp only [Hp.size_push]; omega)
        (R85_mk (x := (y1, y2, y3, y4)) d1 d2 d3 (R43.mono hr2 (fun _ h => h) id (Fr.of fun c hc => get_push_ne (by omega)))) (by simp (maxDischargeDepth := 16) only [z34, ↓reduceIte]) ⟨by omega, by simp only [Hp.size_push]; omega, hwne _ (by omega)⟩ (fun c hc => ⟨by omega, by simp only [Hp.size_push]; omega, hwne _ (by omega)⟩) (by simp only [List.length_take]; omega) (by simp only [List.length_take]; unfold capOpen; omega)
        (by rw [view_cons, if_pos (by rw [show Nat.testBit 4095 11 = true from by decide]; rfl), view_keepS2 (by omega), view_nil, get_push_self]) (fun a b c hc => ?_) (by decide) (by simp (maxDischargeDepth := 16) only [z0v, z1m, z3b, z4e, z4f, z4j, z4k, z4l]) ?_
      · simp only [List.mem_toArray, List.mem_cons, List.not_mem_nil, or_false] at hc
        rcases hc with rfl | rfl | rfl | rfl
        · exact vb_int
        · exact vb_int
        · exact vb_int
        · rw [vb_slice]
          refine allow_keep ?_
          rw [allow_cons, al9 _ (by decide)]
          simp
      rintro v5 k5 kept' wr' hvb ha5 hs5 hr5 hg5 hb5
      have hvb' := hvb 8191 (by decide)
      simp (maxDischargeDepth := 16) only [z08, z0d, z0e, z0h, z0k, z0p, z0q, z0s, z0t, z0v, z0w, z0z, z10, z11, z13, z24, z3b, z4e, z4f, z4g, z4h, z4i, z5j, z5t, z5u, Nat.reduceAdd, ↓reduceIte, hvb', w3]
      refine ih (m - 1) _ _ q1 ⟨i + 1, v5, q2, q3, ⟨?_, fun c hc => ?_⟩, ?_, ?_, rfl, rfl, rfl, rfl, rfl, rfl⟩
      · simp only [Hp.size_push] at hs5; omega
      · rw [hg5 c (by simp only [Hp.size_push]; omega) (fun h => by have := (ha.blk h).1; omega), get_push_ne (by omega), hkm.get c (by omega), hk.get c hc]
      · rw [hr5]; simp only [Hp.ro_push]; rw [hm2, hr]
      · rw [List.take_add_one, hy]; exact ha5
    · have hlt' : ¬ (i : Int) < (xs.length : Int) := by omega
      have : i = xs.length := by omega
      subst this
      simp (maxDischargeDepth := 16) only [z05, z06, z08, z09, z0a, z0c, z0d, z0e, z0g, z0j, z0m, z0o, z0p, z0q, z0s, z0t, z0v, z0z, z10, z11, z13, z2d, z3b, z3c, z3f, z4e, z4f, z4g, z4h, z4i, z4z, z5b, ↓reduceIte, hlt']
      refine Al.done hk hr ?_
      rwa [List.take_length] at ha
  · omega
  · exact ⟨0, .slice none 0 0, by omega, by omega, Keeps.refl _, rfl, by simpa using Acc.nil, rfl, rfl, rfl, rfl, rfl, rfl⟩
end Go.Abs.B1
