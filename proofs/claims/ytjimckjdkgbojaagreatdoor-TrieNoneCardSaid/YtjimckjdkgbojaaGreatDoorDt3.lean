/- How wide an address is. -/
import Derived.Test.YtjimckjdkgbojaaGreatDoorDt1
namespace Go.Abs.D1
open Go.Proofs
set_option maxRecDepth 10000
set_option maxHeartbeats 4000000
set_option linter.all false
def eqCells : List Value → List Value → Bool
  | [], [] => true
  | .int k a :: l, .int k' b :: l' => kEq k k' && (decide (a = b) && eqCells l l')
  | _, _ => false
theorem eqCells_is : ∀ (l l' : List Value), eqCells l l' = true → l = l'
  | [], [], _ => rfl
  | .int k a :: l, .int k' b :: l', h => by
    simp only [eqCells, Bool.and_eq_true, decide_eq_true_eq] at h
    rw [kEq_is h.1, h.2.1, eqCells_is l l' h.2.2]
noncomputable def chk (h : Hp) : Bool :=
  match h.get 0 with
  | some (.cells c0 false) =>
    match h.get 2 with
    | some (.cells c2 false) => eqCells c0.toList widA.toList && eqCells c2.toList debA.toList
    | _ => false
  | _ => false
theorem chk_is {h : Hp} (hc : chk h = true) : h.get 0 = some (.cells widA false) ∧ h.get 2 = some (.cells debA false) := by
  unfold chk at hc
  split at hc
  · rename_i c0 h0
    split at hc
    · rename_i c2 h2
      rw [Bool.and_eq_true] at hc
      rw [h0, h2, Array.ext' (eqCells_is _ _ hc.1), Array.ext' (eqCells_is _ _ hc.2)]
      exact ⟨rfl, rfl⟩
    · cases hc
  · cases hc
theorem chk_sub {h : Hp} (hc : chk h = true) : SubH hL h := fun b y hy => by
  obtain ⟨h0, h2⟩ := chk_is hc
  rw [hL_get] at hy
  split at hy
  · rename_i e; subst e; cases hy; exact h2
  · split at hy
    · rename_i e; subst e; cases hy; exact h0
    · cases hy
def widF (v : Int) : Int := match v with
  | .ofNat n => match n with
    | 4 => 32
    | 6 => 128
    | _ => 0
  | _ => 0
theorem run93 {I : Intr} (i0 : I 93 = none) {N : Nat} {h : Hp} {v : Int} (h0 : h.get 0 = some (.cells widA false)) (hs : 0 < h.size) : evalV Tryz.prog I (N + 1) (.fn 93) #[.int .i64 v] h = some (.int .i64 (widF v), h) := by
  rw [evalV_call (P := Tryz.prog) (intr := I) (f := 93) (m := 12) (rs := #[.tmp 2]) i0 Tryz.func93 rfl rfl rfl]
  by_cases hv : v < 0
  · have e : widF v = 0 := by
      cases v with
      | ofNat n => exact absurd hv (by simp)
      | negSucc n => rfl
    rw [e]
    simp (maxDischargeDepth := 16) only [z00, z01, z02, z03, z04, z05, z06, z07, z08, z09, z0a, z0b, z0c, z0d, z0e, z0f, z0g, z0h, z0i, z0j, z0k, z0l, z0m, z0n, z0o, z0p, z0q, z0r, z0s, z0t, z0u, z0v, z0w, z0x, z0y, z0z, z10, z11, z12, z13, z14, z15, z16, z17, z18, z19, z1a, z1b, z1c, z1d, z1e, z1f, z1g, z1h, z1i, z1j, z1k, z1l, z1m, z1n, z1o, z1p, z1q, z1r, z1s, z1t, z1u, z1v, z1w, z1x, z1y, z1z, z20, z21, z22, z23, z24, z25, z26, z27, z28, z29, z2a, z2b, z2c, z2d, z2e, z2f, z2g, z2h, z2i, z2j, z2k, z2l, z2m, z2n, z2o, z2p, z2q, z2r, z2s, z2t, z2u, z2v, z2w, z2x, z2y, z2z, z30, z31, z32, z33, z34, z35, z36, z37, z38, z39, z3a, z3b, z3c, z3d, z3e, z3f, z3g, z3h, z3i, z3j, z3k, z3l, z3m, z3n, z3o, z3p, z3q, z3r, z3s, z3t, z3u, z3v, z3w, z3x, z3y, z3z, z40, z41, z42, z43, z44, z45, z46, z47, z48, z49, z4a, z4b, z4c, z4d, z4e, z4f, z4g, z4h, z4i, z4j, z4k, z4l, z4m, z4n, z4o, z4p, z4q, z4r, z4s, z4t, z4u, z4v, z4w, z4x, z4y, z4z, z50, z51, z52, z53, z54, z55, z56, z57, z58, z59, z5a, z5b, z5c, z5d, z5e, z5f, z5g, z5h, z5i, z5j, z5k, z5l, z5m, z5n, z5o, z5p, z5q, z5r, z5s, z5t, z5u, z5v, z5w, z5x, z5y, z5z, z60, z61, z62, z63, z64, z65, z66, z67, z68, z69, z6a, z6b, z6c, z6d, z6e, z6f, z6g, z6h, z6i, z6j, z6k, z6l, z6m, z6n, z6o, z6p, z6q, z6r, z6s, z6t, z6u, z6v, z6w, z6x, z6y, z6z, z70, z71, z72, z73, z74, z75, z76, z77, z78, z79, z7a, z7b, z7c, z7d, z7e, z7f, z7g, z7h, z7i, z7j, z7k, z7l, z7m, z7n, z7o, z7p, z7q, z7r, z7s, z7t, z7u, z7v, z7w, z7x, z7y, z7z, z80, z81, z82, z83, z84, z85, z86, z87, z88, z89, z8a, z8b, z8c, z8d, z8e, z8f, z8g, z8h, z8i, z8j, z8k, z8l, z8m, z8n, z8o, z8p, z8q, z8r, z8s, z8t, evalC_block, Nat.reduceEqDiff, Nat.reduceLeDiff, Nat.reduceAdd, Nat.reduceSub, Nat.reduceMul, ↓reduceIte, Nat.reduceDiv, Nat.reduceMod, Nat.reducePow, Nat.reduceLT, Int.reduceEq, Int.reduceNe, Int.reduceLT, Int.reduceLE, Int.reduceToNat, yielded, keepR, Hp.cell, Hp.row, Hp.wr, tArrx237, tPartx3, hv]
  · by_cases hv7 : 7 ≤ v
    · have e : widF v = 0 := by
        cases v with
        | ofNat n =>
          have hn : 7 ≤ n := by
            have : (7 : Int) ≤ (n : Int) := hv7
            omega
          obtain ⟨m, rfl⟩ : ∃ m, n = m + 7 := ⟨n - 7, by omega⟩
          rfl
        | negSucc n => rfl
      rw [e]
      simp (maxDischargeDepth := 16) only [z00, z01, z02, z03, z04, z05, z06, z07, z08, z09, z0a, z0b, z0c, z0d, z0e, z0f, z0g, z0h, z0i, z0j, z0k, z0l, z0m, z0n, z0o, z0p, z0q, z0r, z0s, z0t, z0u, z0v, z0w, z0x, z0y, z0z, z10, z11, z12, z13, z14, z15, z16, z17, z18, z19, z1a, z1b, z1c, z1d, z1e, z1f, z1g, z1h, z1i, z1j, z1k, z1l, z1m, z1n, z1o, z1p, z1q, z1r, z1s, z1t, z1u, z1v, z1w, z1x, z1y, z1z, z20, z21, z22, z23, z24, z25, z26, z27, z28, z29, z2a, z2b, z2c, z2d, z2e, z2f, z2g, z2h, z2i, z2j, z2k, z2l, z2m, z2n, z2o, z2p, z2q, z2r, z2s, z2t, z2u, z2v, z2w, z2x, z2y, z2z, z30, z31, z32, z33, z34, z35, z36, z37, z38, z39, z3a, z3b, z3c, z3d, z3e, z3f, z3g, z3h, z3i, z3j, z3k, z3l, z3m, z3n, z3o, z3p, z3q, z3r, z3s, z3t, z3u, z3v, z3w, z3x, z3y, z3z, z40, z41, z42, z43, z44, z45, z46, z47, z48, z49, z4a, z4b, z4c, z4d, z4e, z4f, z4g, z4h, z4i, z4j, z4k, z4l, z4m, z4n, z4o, z4p, z4q, z4r, z4s, z4t, z4u, z4v, z4w, z4x, z4y, z4z, z50, z51, z52, z53, z54, z55, z56, z57, z58, z59, z5a, z5b, z5c, z5d, z5e, z5f, z5g, z5h, z5i, z5j, z5k, z5l, z5m, z5n, z5o, z5p, z5q, z5r, z5s, z5t, z5u, z5v, z5w, z5x, z5y, z5z, z60, z61, z62, z63, z64, z65, z66, z67, z68, z69, z6a, z6b, z6c, z6d, z6e, z6f, z6g, z6h, z6i, z6j, z6k, z6l, z6m, z6n, z6o, z6p, z6q, z6r, z6s, z6t, z6u, z6v, z6w, z6x, z6y, z6z, z70, z71, z72, z73, z74, z75, z76, z77, z78, z79, z7a, z7b, z7c, z7d, z7e, z7f, z7g, z7h, z7i, z7j, z7k, z7l, z7m, z7n, z7o, z7p, z7q, z7r, z7s, z7t, z7u, z7v, z7w, z7x, z7y, z7z, z80, z81, z82, z83, z84, z85, z86, z87, z88, z89, z8a, z8b, z8c, z8d, z8e, z8f, z8g, z8h, z8i, z8j, z8k, z8l, z8m, z8n, z8o, z8p, z8q, z8r, z8s, z8t, evalC_block, Nat.reduceEqDiff, Nat.reduceLeDiff, Nat.reduceAdd, Nat.reduceSub, Nat.reduceMul, ↓reduceIte, Nat.reduceDiv, Nat.reduceMod, Nat.reducePow, Nat.reduceLT, Int.reduceEq, Int.reduceNe, Int.reduceLT, Int.reduceLE, Int.reduceToNat, yielded, keepR, Hp.cell, Hp.row, Hp.wr, tArrx237, tPartx3, hv, hv7]
    · have c0 : ((0 : Int) < ((7 : Nat) : Int)) = True := eq_true (by omega)
      have c1 : ((1 : Int) < ((7 : Nat) : Int)) = True := eq_true (by omega)
      have c2 : ((2 : Int) < ((7 : Nat) : Int)) = True := eq_true (by omega)
      have c3 : ((3 : Int) < ((7 : Nat) : Int)) = True := eq_true (by omega)
      have c4 : ((4 : Int) < ((7 : Nat) : Int)) = True := eq_true (by omega)
      have c5 : ((5 : Int) < ((7 : Nat) : Int)) = True := eq_true (by omega)
      have c6 : ((6 : Int) < ((7 : Nat) : Int)) = True := eq_true (by omega)
      have : v = 0 ∨ v = 1 ∨ v = 2 ∨ v = 3 ∨ v = 4 ∨ v = 5 ∨ v = 6 := by omega
      have g : ∀ (i : Nat) (x : Value), widA[i]? = some x → widA[i]? = some x := fun _ _ h => h
      have w0 := g 0 (.int .i64 0) rfl
      have w1 := g 1 (.int .i64 0) rfl
      have w2 := g 2 (.int .i64 0) rfl
      have w3 := g 3 (.int .i64 0) rfl
      have w4 := g 4 (.int .i64 32) rfl
      have w5 := g 5 (.int .i64 0) rfl
      have w6 := g 6 (.int .i64 128) rfl
      rcases this with rfl | rfl | rfl | rfl | rfl | rfl | rfl
      all_goals
        simp (maxDischargeDepth := 16) only [z00, z01, z02, z03, z04, z05, z06, z07, z08, z09, z0a, z0b, z0c, z0d, z0e, z0f, z0g, z0h, z0i, z0j, z0k, z0l, z0m, z0n, z0o, z0p, z0q, z0r, z0s, z0t, z0u, z0v, z0w, z0x, z0y, z0z, z10, z11, z12, z13, z14, z15, z16, z17, z18, z19, z1a, z1b, z1c, z1d, z1e, z1f, z1g, z1h, z1i, z1j, z1k, z1l, z1m, z1n, z1o, z1p, z1q, z1r, z1s, z1t, z1u, z1v, z1w, z1x, z1y, z1z, z20, z21, z22, z23, z24, z25, z26, z27, z28, z29, z2a, z2b, z2c, z2d, z2e, z2f, z2g, z2h, z2i, z2j, z2k, z2l, z2m, z2n, z2o, z2p, z2q, z2r, z2s, z2t, z2u, z2v, z2w, z2x, z2y, z2z, z30, z31, z32, z33, z34, z35, z36, z37, z38, z39, z3a, z3b, z3c, z3d, z3e, z3f, z3g, z3h, z3i, z3j, z3k, z3l, z3m, z3n, z3o, z3p, z3q, z3r, z3s, z3t, z3u, z3v, z3w, z3x, z3y, z3z, z40, z41, z42, z43, z44, z45, z46, z47, z48, z49, z4a, z4b, z4c, z4d, z4e, z4f, z4g, z4h, z4i, z4j, z4k, z4l, z4m, z4n, z4o, z4p, z4q, z4r, z4s, z4t, z4u, z4v, z4w, z4x, z4y, z4z, z50, z51, z52, z53, z54, z55, z56, z57, z58, z59, z5a, z5b, z5c, z5d, z5e, z5f, z5g, z5h, z5i, z5j, z5k, z5l, z5m, z5n, z5o, z5p, z5q, z5r, z5s, z5t, z5u, z5v, z5w, z5x, z5y, z5z, z60, z61, z62, z63, z64, z65, z66, z67, z68, z69, z6a, z6b, z6c, z6d, z6e, z6f, z6g, z6h, z6i, z6j, z6k, z6l, z6m, z6n, z6o, z6p, z6q, z6r, z6s, z6t, z6u, z6v, z6w, z6x, z6y, z6z, z70, z71, z72, z73, z74, z75, z76, z77, z78, z79, z7a, z7b, z7c, z7d, z7e, z7f, z7g, z7h, z7i, z7j, z7k, z7l, z7m, z7n, z7o, z7p, z7q, z7r, z7s, z7t, z7u, z7v, z7w, z7x, z7y, z7z, z80, z81, z82, z83, z84, z85, z86, z87, z88, z89, z8a, z8b, z8c, z8d, z8e, z8f, z8g, z8h, z8i, z8j, z8k, z8l, z8m, z8n, z8o, z8p, z8q, z8r, z8s, z8t, evalC_block, Nat.reduceEqDiff, Nat.reduceLeDiff, Nat.reduceAdd, Nat.reduceSub, Nat.reduceMul, ↓reduceIte, Nat.reduceDiv, Nat.reduceMod, Nat.reducePow, Nat.reduceLT, Int.reduceEq, Int.reduceNe, Int.reduceLT, Int.reduceLE, Int.reduceToNat, yielded, keepR, Hp.cell, Hp.row, Hp.wr, tArrx237, tPartx3, h0, ne_f hs, ne_f0 hs, lt_t hs, lt_t0 hs, c0, c1, c2, c3, c4, c5, c6, w0, w1, w2, w3, w4, w5, w6]
        rfl
noncomputable def F93 (args : Array Value) (h : Hp) : Option Value :=
  match args.toList with
  | [.int .i64 v] => match chk h && Nat.blt 0 h.size with
    | true => some (.int .i64 (widF v))
    | false => none
  | _ => none
theorem con93 : Con Tryz.prog (CKb Tryz.prog) 93 (fun args h => (F93 args h).map fun v => (v, h)) := Con.clean base ok0 fun args h v hv hro ha => by
  unfold F93 at hv
  split at hv
  · rename_i x hargs
    split at hv
    · rename_i hc
      rw [Bool.and_eq_true] at hc
      cases hv
      refine ⟨1, h, ?_, fun _ _ => rfl, by simp⟩
      have : args = #[.int .i64 x] := by
        apply Array.ext'
        rw [hargs]
      rw [this]
      exact run93 (I := I0) rfl (N := 0) (chk_is hc.1).1 (Nat.le_of_ble_eq_true hc.2)
    · cases hv
  · cases hv
end Go.Abs.D1
