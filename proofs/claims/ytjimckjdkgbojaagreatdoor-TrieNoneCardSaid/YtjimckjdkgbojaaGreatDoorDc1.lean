/- Which bits of an address are noughts. -/
import Derived.Test.YtjimckjdkgbojaaGreatDoorDn0t
import Derived.Test.YtjimckjdkgbojaaGreatDoorAbsF
namespace Go.Abs.D1
open Go.Proofs
set_option maxRecDepth 10000
set_option maxHeartbeats 4000000
set_option linter.all false
def bitN (bs : List Int) (i : Nat) : Bool := Nat.testBit (bs.getD (i / 8) 0).toNat (7 - i % 8)
def clrN (bs : List Int) : Nat → Nat → Bool
  | 0, _ => true
  | f + 1, i => if bitN bs i then false else clrN bs f (i + 1)
def byteV (v : Value) : Option Int := match v with
  | .int .u8 x => if 0 ≤ x ∧ x < 256 then some x else none
  | _ => none
def bytesV : List Value → Option (List Int)
  | [] => some []
  | v :: l => match byteV v, bytesV l with
    | some x, some xs => some (x :: xs)
    | _, _ => none
theorem bytesV_is : ∀ (l : List Value) (bs : List Int), bytesV l = some bs → l = bs.map (.int .u8) ∧ ∀ x ∈ bs, 0 ≤ x ∧ x < 256
  | [], bs, h => by cases h; simp
  | v :: l, bs, h => by
    simp only [bytesV] at h
    split at h
    · rename_i x xs h1 h2
      cases h
      obtain ⟨h3, h4⟩ := bytesV_is l xs h2
      unfold byteV at h1
      split at h1
      · split at h1
        · rename_i hb
          cases h1
          exact ⟨by rw [h3]; rfl, fun y hy => by
            rcases List.mem_cons.1 hy with rfl | hy
            · exact hb
            · exact h4 y hy⟩
        · cases h1
      · cases h1
    · cases h
theorem bit_all : (List.range 256).all (fun x => (List.range 8).all fun s => decide (ibAnd .u8 (ishr .u8 (x : Int) (s : Int)) 1 = 1) == Nat.testBit x s) = true := by kernel_rfl
theorem bit_is {x s : Int} (h1 : 0 ≤ x) (h2 : x < 256) (h3 : 0 ≤ s) (h4 : s < 8) : decide (ibAnd .u8 (ishr .u8 x s) 1 = 1) = Nat.testBit x.toNat s.toNat := by
  have := List.all_eq_true.1 bit_all x.toNat (List.mem_range.2 (by omega))
  have := List.all_eq_true.1 this s.toNat (List.mem_range.2 (by omega))
  rw [beq_iff_eq, Int.toNat_of_nonneg h1, Int.toNat_of_nonneg h3] at this
  exact this
theorem run112 {I : Intr} (h1 : I 112 = none) {N : Nat} {h : Hp} {bs : List Int} (hl : bs.length = 16) (hb : ∀ x ∈ bs, 0 ≤ x ∧ x < 256) {n : Nat} (hn : n < 4611686018427387904) (hN : 200 < N) (hro : h.ro ≤ h.size) :
    Al h (fun _ v => v = .bool (clrN bs (128 - n) n)) (evalV Tryz.prog I N (.fn 112) #[.agg (bs.map (.int .u8)).toArray, .int .i64 (n : Int)] h) := by
  obtain ⟨N, rfl⟩ : ∃ n, N = n + 1 := ⟨N - 1, by omega⟩
  rw [evalV_call (P := Tryz.prog) (intr := I) (f := 112) (m := 21) (rs := #[.tmp 4]) h1 Tryz.func112 rfl rfl rfl]
  simp (maxDischargeDepth := 16) only [z00, z01, z02, z03, z04, z05, z06, z07, z08, z09, z0a, z0b, z0c, z0d, z0e, z0f, z0g, z0h, z0i, z0j, z0k, z0l, z0m, z0n, z0o, z0p, z0q, z0r, z0s, z0t, z0u, z0v, z0w, z0x, z0y, z0z, z10, z11, z12, z13, z14, z15, z16, z17, z18, z19, z1a, z1b, z1c, z1d, z1e, z1f, z1g, z1h, z1i, z1j, z1k, z1l, z1m, z1n, z1o, z1p, z1q, z1r, z1s, z1t, z1u, z1v, z1w, z1x, z1y, z1z, z20, z21, z22, z23, z24, z25, z26, z27, z28, z29, z2a, z2b, z2c, z2d, z2e, z2f, z2g, z2h, z2i, z2j, z2k, z2l, z2m, z2n, z2o, z2p, z2q, z2r, z2s, z2t, z2u, z2v, z2w, z2x, z2y, z2z, z30, z31, z32, z33, z34, z35, z36, z37, z38, z39, z3a, z3b, z3c, z3d, z3e, z3f, z3g, z3h, z3i, z3j, z3k, z3l, z3m, z3n, z3o, z3p, z3q, z3r, z3s, z3t, z3u, z3v, z3w, z3x, z3y, z3z, z40, z41, z42, z43, z44, z45, z46, z47, z48, z49, z4a, z4b, z4c, z4d, z4e, z4f, z4g, z4h, z4i, z4j, z4k, z4l, z4m, z4n, z4o, z4p, z4q, z4r, z4s, z4t, z4u, z4v, z4w, z4x, z4y, z4z, z50, z51, z52, z53, z54, z55, z56, z57, z58, z59, z5a, z5b, z5c, z5d, z5e, z5f, z5g, z5h, z5i, z5j, z5k, z5l, z5m, z5n, z5o, z5p, z5q, z5r, z5s, z5t, z5u, z5v, z5w, z5x, z5y, z5z, z60, z61, z62, z63, z64, z65, z66, z67, z68, z69, z6a, z6b, z6c, z6d, z6e, z6f, z6g, z6h, z6i, z6j, z6k, z6l, z6m, z6n, z6o, z6p, z6q, z6r, z6s, z6t, z6u, z6v, z6w, z6x, z6y, z6z, z70, z71, z72, z73, z74, z75, z76, z77, z78, z79, z7a, z7b, z7c, z7d, z7e, z7f, z7g, z7h, z7i, z7j, z7k, z7l, z7m, z7n, z7o, z7p, z7q, z7r, z7s, z7t, z7u, z7v, z7w, z7x, z7y, z7z, z80, z81, z82, z83, z84, z85, z86, z87, z88, z89, z8a, z8b, z8c, z8d, z8e, z8f, z8g, z8h, z8i, z8j, z8k, z8l, z8m, z8n, z8o, z8p, z8q, z8r, z8s, z8t, evalC_block, Nat.reduceEqDiff, Nat.reduceLeDiff, Nat.reduceAdd, Nat.reduceSub, Nat.reduceMul, ↓reduceIte, Nat.reduceDiv, Nat.reduceMod, Nat.reducePow, Nat.reduceLT, Int.reduceEq, Int.reduceNe, Int.reduceLT, Int.reduceLE, Int.reduceToNat, yielded, keepR, Hp.cell, Hp.row, Hp.wr, tArrx31, tPartx5]
  refine loop_rule (Al h _) (fun m x k' => ∃ i : Nat, m = 128 - i ∧ clrN bs (128 - n) n = clrN bs (128 - i) i ∧ (i ≤ 128 ∨ i = n) ∧ k' = (h.push (some (.cells (bs.map (.int .u8)).toArray true))) ∧ x.tmps.size = 21 ∧ x.defers = [] ∧ x.tmps.getD 2 undef = .pointer (some ⟨h.size, 0, none⟩) ∧ x.tmps.getD 5 undef = .int .i64 (i : Int)) ?_ _ (128 - n) _ _ ?_ ?_
  · intro m n' x k' hI' ih
    obtain ⟨i, hm, hx, hi, rfl, hxs, hxd, l2, l5⟩ := hI'
    obtain ⟨g, rfl⟩ : ∃ g : Nat → Value, x = { tmps := #[g 0, g 1, .pointer (some ⟨h.size, 0, none⟩), g 3, g 4, .int .i64 (i : Int), g 6, g 7, g 8, g 9, g 10, g 11, g 12, g 13, g 14, g 15, g 16, g 17, g 18, g 19, g 20], defers := [] } := ⟨fun k => x.tmps.getD k undef, (act_eta hxs hxd).trans (by simp only [unrollL, Nat.reduceAdd, Nat.zero_add, l2, l5])⟩; clear hxs hxd l2 l5
    by_cases hlt : i < 128
    · have hlt' : ((i : Int) < 128) = True := eq_true (by omega)
      have hi8 : i / 8 < bs.length := by omega
      obtain ⟨x, hx0⟩ : ∃ x, bs[i / 8]? = some x := ⟨_, List.getElem?_eq_getElem hi8⟩
      obtain ⟨hx1, hx2⟩ := hb x (List.mem_of_getElem? hx0)
      have e1 : IntKind.i64.wrap ((i : Int).tdiv 8) = ((i / 8 : Nat) : Int) := by
        rw [show (i : Int).tdiv 8 = ((i / 8 : Nat) : Int) from rfl, i64_in (by omega) (by omega)]
      have e2 : (i : Int).tmod 8 = ((i % 8 : Nat) : Int) := rfl
      have e3 : IntKind.i64.wrap (7 - ((i % 8 : Nat) : Int)) = ((7 - i % 8 : Nat) : Int) := by rw [i64_in (by omega) (by omega)]; omega
      have pa : (0 ≤ ((i / 8 : Nat) : Int)) = True := eq_true (by omega)
      have pb : (((i / 8 : Nat) : Int) < ((16 : Nat) : Int)) = True := eq_true (by omega)
      have ps : 0 ≤ ((7 - i % 8 : Nat) : Int) := by omega
      have hg : (bs.map (Value.int .u8)).toArray[i / 8]? = some (.int .u8 x) := by simp [hx0]
      have hbit := bit_is (x := x) (s := ((7 - i % 8 : Nat) : Int)) hx1 hx2 (by omega) (by omega)
      rw [Int.toNat_natCast] at hbit
      have hbn : bitN bs i = Nat.testBit x.toNat (7 - i % 8) := by unfold bitN; rw [List.getD_eq_getElem?_getD, hx0]; rfl
      have w3 := i64_succ (i := i) (by omega)
      have hstep : clrN bs (128 - i) i = if bitN bs i then false else clrN bs (128 - (i + 1)) (i + 1) := by
        rw [show 128 - i = (128 - (i + 1)) + 1 by omega]; rfl
      have gc : (h.push (some (.cells (bs.map (Value.int .u8)).toArray true))).get h.size = some (.cells (bs.map (Value.int .u8)).toArray true) := by rw [Hp.get_push, if_pos rfl]
      have nc : h.size < (h.push (some (.cells (bs.map (Value.int .u8)).toArray true))).size := by rw [Hp.size_push]; omega
      rw [← hbn] at hbit
      cases hv : bitN bs i with
      | true =>
        rw [hv] at hbit hstep
        simp (maxDischargeDepth := 16) only [z00, z01, z02, z03, z04, z05, z06, z07, z08, z09, z0a, z0b, z0c, z0d, z0e, z0f, z0g, z0h, z0i, z0j, z0k, z0l, z0m, z0n, z0o, z0p, z0q, z0r, z0s, z0t, z0u, z0v, z0w, z0x, z0y, z0z, z10, z11, z12, z13, z14, z15, z16, z17, z18, z19, z1a, z1b, z1c, z1d, z1e, z1f, z1g, z1h, z1i, z1j, z1k, z1l, z1m, z1n, z1o, z1p, z1q, z1r, z1s, z1t, z1u, z1v, z1w, z1x, z1y, z1z, z20, z21, z22, z23, z24, z25, z26, z27, z28, z29, z2a, z2b, z2c, z2d, z2e, z2f, z2g, z2h, z2i, z2j, z2k, z2l, z2m, z2n, z2o, z2p, z2q, z2r, z2s, z2t, z2u, z2v, z2w, z2x, z2y, z2z, z30, z31, z32, z33, z34, z35, z36, z37, z38, z39, z3a, z3b, z3c, z3d, z3e, z3f, z3g, z3h, z3i, z3j, z3k, z3l, z3m, z3n, z3o, z3p, z3q, z3r, z3s, z3t, z3u, z3v, z3w, z3x, z3y, z3z, z40, z41, z42, z43, z44, z45, z46, z47, z48, z49, z4a, z4b, z4c, z4d, z4e, z4f, z4g, z4h, z4i, z4j, z4k, z4l, z4m, z4n, z4o, z4p, z4q, z4r, z4s, z4t, z4u, z4v, z4w, z4x, z4y, z4z, z50, z51, z52, z53, z54, z55, z56, z57, z58, z59, z5a, z5b, z5c, z5d, z5e, z5f, z5g, z5h, z5i, z5j, z5k, z5l, z5m, z5n, z5o, z5p, z5q, z5r, z5s, z5t, z5u, z5v, z5w, z5x, z5y, z5z, z60, z61, z62, z63, z64, z65, z66, z67, z68, z69, z6a, z6b, z6c, z6d, z6e, z6f, z6g, z6h, z6i, z6j, z6k, z6l, z6m, z6n, z6o, z6p, z6q, z6r, z6s, z6t, z6u, z6v, z6w, z6x, z6y, z6z, z70, z71, z72, z73, z74, z75, z76, z77, z78, z79, z7a, z7b, z7c, z7d, z7e, z7f, z7g, z7h, z7i, z7j, z7k, z7l, z7m, z7n, z7o, z7p, z7q, z7r, z7s, z7t, z7u, z7v, z7w, z7x, z7y, z7z, z80, z81, z82, z83, z84, z85, z86, z87, z88, z89, z8a, z8b, z8c, z8d, z8e, z8f, z8g, z8h, z8i, z8j, z8k, z8l, z8m, z8n, z8o, z8p, z8q, z8r, z8s, z8t, evalC_block, Nat.reduceEqDiff, Nat.reduceLeDiff, Nat.reduceAdd, Nat.reduceSub, Nat.reduceMul, ↓reduceIte, Nat.reduceDiv, Nat.reduceMod, Nat.reducePow, Nat.reduceLT, Int.reduceEq, Int.reduceNe, Int.reduceLT, Int.reduceLE, Int.reduceToNat, yielded, keepR, Hp.cell, Hp.row, Hp.wr, tArrx31, tPartx5, hlt', bin_quo (show (8 : Int) ≠ 0 by decide), bin_rem (show (8 : Int) ≠ 0 by decide), bin_shr ps, e1, e2, e3, pa, pb, Int.toNat_natCast, Nat.mul_one, Nat.zero_add, hg, gc, ne_f nc, ne_f0 nc, lt_t nc, lt_t0 nc, hbit, w3]
        rw [hx, hstep]
        exact Al.done (by repeat (first | assumption | exact Keeps.refl _ | refine Keeps.push ?_ _ | refine Keeps.set ?_ (by first | omega | (simp only [Hp.size_push, Hp.size_setB]; omega)) _)) rfl rfl
      | false =>
        rw [hv] at hbit hstep
        simp (maxDischargeDepth := 16) only [z00, z01, z02, z03, z04, z05, z06, z07, z08, z09, z0a, z0b, z0c, z0d, z0e, z0f, z0g, z0h, z0i, z0j, z0k, z0l, z0m, z0n, z0o, z0p, z0q, z0r, z0s, z0t, z0u, z0v, z0w, z0x, z0y, z0z, z10, z11, z12, z13, z14, z15, z16, z17, z18, z19, z1a, z1b, z1c, z1d, z1e, z1f, z1g, z1h, z1i, z1j, z1k, z1l, z1m, z1n, z1o, z1p, z1q, z1r, z1s, z1t, z1u, z1v, z1w, z1x, z1y, z1z, z20, z21, z22, z23, z24, z25, z26, z27, z28, z29, z2a, z2b, z2c, z2d, z2e, z2f, z2g, z2h, z2i, z2j, z2k, z2l, z2m, z2n, z2o, z2p, z2q, z2r, z2s, z2t, z2u, z2v, z2w, z2x, z2y, z2z, z30, z31, z32, z33, z34, z35, z36, z37, z38, z39, z3a, z3b, z3c, z3d, z3e, z3f, z3g, z3h, z3i, z3j, z3k, z3l, z3m, z3n, z3o, z3p, z3q, z3r, z3s, z3t, z3u, z3v, z3w, z3x, z3y, z3z, z40, z41, z42, z43, z44, z45, z46, z47, z48, z49, z4a, z4b, z4c, z4d, z4e, z4f, z4g, z4h, z4i, z4j, z4k, z4l, z4m, z4n, z4o, z4p, z4q, z4r, z4s, z4t, z4u, z4v, z4w, z4x, z4y, z4z, z50, z51, z52, z53, z54, z55, z56, z57, z58, z59, z5a, z5b, z5c, z5d, z5e, z5f, z5g, z5h, z5i, z5j, z5k, z5l, z5m, z5n, z5o, z5p, z5q, z5r, z5s, z5t, z5u, z5v, z5w, z5x, z5y, z5z, z60, z61, z62, z63, z64, z65, z66, z67, z68, z69, z6a, z6b, z6c, z6d, z6e, z6f, z6g, z6h, z6i, z6j, z6k, z6l, z6m, z6n, z6o, z6p, z6q, z6r, z6s, z6t, z6u, z6v, z6w, z6x, z6y, z6z, z70, z71, z72, z73, z74, z75, z76, z77, z78, z79, z7a, z7b, z7c, z7d, z7e, z7f, z7g, z7h, z7i, z7j, z7k, z7l, z7m, z7n, z7o, z7p, z7q, z7r, z7s, z7t, z7u, z7v, z7w, z7x, z7y, z7z, z80, z81, z82, z83, z84, z85, z86, z87, z88, z89, z8a, z8b, z8c, z8d, z8e, z8f, z8g, z8h, z8i, z8j, z8k, z8l, z8m, z8n, z8o, z8p, z8q, z8r, z8s, z8t, evalC_block, Nat.reduceEqDiff, Nat.reduceLeDiff, Nat.reduceAdd, Nat.reduceSub, Nat.reduceMul, ↓reduceIte, Nat.reduceDiv, Nat.reduceMod, Nat.reducePow, Nat.reduceLT, Int.reduceEq, Int.reduceNe, Int.reduceLT, Int.reduceLE, Int.reduceToNat, yielded, keepR, Hp.cell, Hp.row, Hp.wr, tArrx31, tPartx5, hlt', bin_quo (show (8 : Int) ≠ 0 by decide), bin_rem (show (8 : Int) ≠ 0 by decide), bin_shr ps, e1, e2, e3, pa, pb, Int.toNat_natCast, Nat.mul_one, Nat.zero_add, hg, gc, ne_f nc, ne_f0 nc, lt_t nc, lt_t0 nc, hbit, w3]
        exact ih (m - 1) _ _ (by omega) ⟨i + 1, by omega, by rw [hx, hstep]; rfl, .inl (by omega), rfl, rfl, rfl, rfl, rfl⟩
    · have hlt' : ((i : Int) < 128) = False := eq_false (by omega)
      simp (maxDischargeDepth := 16) only [z00, z01, z02, z03, z04, z05, z06, z07, z08, z09, z0a, z0b, z0c, z0d, z0e, z0f, z0g, z0h, z0i, z0j, z0k, z0l, z0m, z0n, z0o, z0p, z0q, z0r, z0s, z0t, z0u, z0v, z0w, z0x, z0y, z0z, z10, z11, z12, z13, z14, z15, z16, z17, z18, z19, z1a, z1b, z1c, z1d, z1e, z1f, z1g, z1h, z1i, z1j, z1k, z1l, z1m, z1n, z1o, z1p, z1q, z1r, z1s, z1t, z1u, z1v, z1w, z1x, z1y, z1z, z20, z21, z22, z23, z24, z25, z26, z27, z28, z29, z2a, z2b, z2c, z2d, z2e, z2f, z2g, z2h, z2i, z2j, z2k, z2l, z2m, z2n, z2o, z2p, z2q, z2r, z2s, z2t, z2u, z2v, z2w, z2x, z2y, z2z, z30, z31, z32, z33, z34, z35, z36, z37, z38, z39, z3a, z3b, z3c, z3d, z3e, z3f, z3g, z3h, z3i, z3j, z3k, z3l, z3m, z3n, z3o, z3p, z3q, z3r, z3s, z3t, z3u, z3v, z3w, z3x, z3y, z3z, z40, z41, z42, z43, z44, z45, z46, z47, z48, z49, z4a, z4b, z4c, z4d, z4e, z4f, z4g, z4h, z4i, z4j, z4k, z4l, z4m, z4n, z4o, z4p, z4q, z4r, z4s, z4t, z4u, z4v, z4w, z4x, z4y, z4z, z50, z51, z52, z53, z54, z55, z56, z57, z58, z59, z5a, z5b, z5c, z5d, z5e, z5f, z5g, z5h, z5i, z5j, z5k, z5l, z5m, z5n, z5o, z5p, z5q, z5r, z5s, z5t, z5u, z5v, z5w, z5x, z5y, z5z, z60, z61, z62, z63, z64, z65, z66, z67, z68, z69, z6a, z6b, z6c, z6d, z6e, z6f, z6g, z6h, z6i, z6j, z6k, z6l, z6m, z6n, z6o, z6p, z6q, z6r, z6s, z6t, z6u, z6v, z6w, z6x, z6y, z6z, z70, z71, z72, z73, z74, z75, z76, z77, z78, z79, z7a, z7b, z7c, z7d, z7e, z7f, z7g, z7h, z7i, z7j, z7k, z7l, z7m, z7n, z7o, z7p, z7q, z7r, z7s, z7t, z7u, z7v, z7w, z7x, z7y, z7z, z80, z81, z82, z83, z84, z85, z86, z87, z88, z89, z8a, z8b, z8c, z8d, z8e, z8f, z8g, z8h, z8i, z8j, z8k, z8l, z8m, z8n, z8o, z8p, z8q, z8r, z8s, z8t, evalC_block, Nat.reduceEqDiff, Nat.reduceLeDiff, Nat.reduceAdd, Nat.reduceSub, Nat.reduceMul, ↓reduceIte, Nat.reduceDiv, Nat.reduceMod, Nat.reducePow, Nat.reduceLT, Int.reduceEq, Int.reduceNe, Int.reduceLT, Int.reduceLE, Int.reduceToNat, yielded, keepR, Hp.cell, Hp.row, Hp.wr, tArrx31, tPartx5, hlt']
      rw [hx, show 128 - i = 0 by omega]
      exact Al.done (by repeat (first | assumption | exact Keeps.refl _ | refine Keeps.push ?_ _ | refine Keeps.set ?_ (by first | omega | (simp only [Hp.size_push, Hp.size_setB]; omega)) _)) rfl rfl
  · omega
  · exact ⟨n, rfl, rfl, .inr rfl, rfl, rfl, rfl, rfl, rfl⟩
def F112 (args : Array Value) (_ : Hp) : Option Value :=
  match args.toList with
  | [.agg cs, .int .i64 n] => match bytesV cs.toList with
    | some bs => if bs.length = 16 ∧ 0 ≤ n ∧ n < 4611686018427387904 then some (.bool (clrN bs (128 - n.toNat) n.toNat)) else none
    | none => none
  | _ => none
theorem con112 : Con Tryz.prog (CKb Tryz.prog) 112 (fun args h => (F112 args h).map fun v => (v, h)) := Con.clean base ok0 fun args h v hv hro ha => by
  unfold F112 at hv
  split at hv
  · rename_i cs n hargs
    split at hv
    · rename_i bs hbs
      split at hv
      · rename_i hc
        obtain ⟨h1, h2, h3⟩ := hc
        cases hv
        obtain ⟨e1, e2⟩ := bytesV_is _ _ hbs
        obtain ⟨v, k, q1, q2, q3, rfl⟩ := run112 (I := I0) rfl (N := 300) (h := h) h1 e2 (n := n.toNat) (by omega) (by omega) hro
        refine ⟨300, k, ?_, q2.get, by simp⟩
        have : args = #[.agg (bs.map (.int .u8)).toArray, .int .i64 ((n.toNat : Nat) : Int)] := by
          rw [Int.toNat_of_nonneg h2, ← e1]
          apply Array.ext'
          rw [hargs]
        rw [this]
        exact q1
      · cases hv
    · cases hv
  · cases hv
end Go.Abs.D1
