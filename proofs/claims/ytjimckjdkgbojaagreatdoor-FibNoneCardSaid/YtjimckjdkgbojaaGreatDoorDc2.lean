/- The block at a place of an arena. -/
import Derived.Test.YtjimckjdkgbojaaGreatDoorDc1
namespace Go.Abs.D1
open Go.Proofs
set_option maxRecDepth 10000
set_option maxHeartbeats 4000000
set_option linter.all false
def wd (ws : Array Value) (i : Nat) : Option Nat := match ws.toList[i]? with
  | some (.int .u32 (.ofNat x)) => if Nat.blt x 4294967296 then some x else none
  | _ => none
theorem wd_is {ws : Array Value} {i x : Nat} (h : wd ws i = some x) : ws[i]? = some (.int .u32 (x : Int)) ∧ x < 4294967296 := by
  unfold wd at h
  split at h
  · rename_i y hy
    split at h
    · rename_i hb
      cases h
      exact ⟨by rw [← Array.getElem?_toList]; exact hy, Nat.le_of_ble_eq_true hb⟩
    · cases h
  · cases h
/-- What is found from a place on. -/
def walkF (ws : Array Value) (e : Nat) (place : Int) : Nat → Nat → Option (Nat × Nat × Bool)
  | 0, _ => none
  | f + 1, at' =>
    match Nat.blt at' e with
    | true =>
      match wd ws at' with
      | some hd =>
        match Nat.ble 16 hd && Nat.blt hd 28 with
        | true =>
          match Nat.beq (hd % 2) 1 && decide (((at' + 1 : Nat) : Int) = place) with
          | true => some (at' + 1, (hd - 16) / 2, true)
          | false => walkF ws e place f (at' + 1 + 2 ^ ((hd - 16) / 2))
        | false => none
      | none => none
    | false => some (0, 0, false)
theorem head_all : (List.range 12).all (fun x => decide (IntKind.u32.wrap ((((x + 16 : Nat) : Int)) - 16) = (x : Int)) && decide (ishr .i64 (x : Int) 1 = ((x / 2 : Nat) : Int)) && (decide (ibAnd .u32 ((x + 16 : Nat) : Int) 1 = 0) == !(Nat.beq ((x + 16) % 2) 1)) && decide (ishl .i64 1 ((x / 2 : Nat) : Int) = ((2 ^ (x / 2) : Nat) : Int))) = true := by kernel_rfl
theorem head_is {hd : Nat} (h1 : 16 ≤ hd) (h2 : hd < 28) : IntKind.u32.wrap ((hd : Int) - 16) = ((hd - 16 : Nat) : Int) ∧ ishr .i64 ((hd - 16 : Nat) : Int) 1 = (((hd - 16) / 2 : Nat) : Int) ∧ decide (ibAnd .u32 (hd : Int) 1 = 0) = !(Nat.beq (hd % 2) 1) ∧ ishl .i64 1 (((hd - 16) / 2 : Nat) : Int) = ((2 ^ ((hd - 16) / 2) : Nat) : Int) := by
  have := List.all_eq_true.1 head_all (hd - 16) (List.mem_range.2 (by omega))
  simp only [Bool.and_eq_true, decide_eq_true_eq, beq_iff_eq] at this
  rw [show hd - 16 + 16 = hd by omega] at this
  exact ⟨this.1.1.1, this.1.1.2, this.1.2, this.2⟩
theorem run206 {I : Intr} (h1 : I 206 = none) {N : Nat} {h : Hp} {hd : Nat} (g1 : 16 ≤ hd) (g2 : hd < 28) : evalV Tryz.prog I (N + 1) (.fn 206) #[.int .u32 (hd : Int)] h = some (.int .i64 (((hd - 16) / 2 : Nat) : Int), h) := by
  obtain ⟨e1, e2, -, -⟩ := head_is g1 g2
  have e3 : IntKind.i64.wrap ((hd - 16 : Nat) : Int) = ((hd - 16 : Nat) : Int) := i64_in (by omega) (by omega)
  rw [evalV_call (P := Tryz.prog) (intr := I) (f := 206) (m := 7) (rs := #[.tmp 2]) h1 Tryz.func206 rfl rfl rfl]
  simp (maxDischargeDepth := 16) only [z05, z08, z09, z0d, z0e, z0o, z0p, z0q, z0s, z0t, z0v, z0w, z0z, z10, z11, z13, z15, z25, z3b, z3c, z3f, z4e, z4f, z4g, z4h, z4i, z4p, z4q, z4r, z4s, z4t, z4u, z4w, z4x, z4y, z4z, z50, z51, z53, z7n, z7z, Nat.reduceSub, tIntx85x3, e1, e2, e3, bin_shr (show (0 : Int) ≤ 1 by decide)]
theorem run119 {I : Intr} (h1 : I 119 = none) {N : Nat} {h : Hp} {hd : Nat} (g1 : 16 ≤ hd) (g2 : hd < 28) : evalV Tryz.prog I (N + 1) (.fn 119) #[.int .i64 (((hd - 16) / 2 : Nat) : Int)] h = some (.int .i64 ((2 ^ ((hd - 16) / 2) : Nat) : Int), h) := by
  obtain ⟨-, -, -, e4⟩ := head_is g1 g2
  have hp : 0 ≤ (((hd - 16) / 2 : Nat) : Int) := by omega
  rw [evalV_call (P := Tryz.prog) (intr := I) (f := 119) (m := 5) (rs := #[.tmp 2]) h1 Tryz.func119 rfl rfl rfl]
  simp (maxDischargeDepth := 16) only [z05, z08, z09, z0d, z0e, z0o, z0p, z0q, z0s, z0t, z0v, z0w, z0z, z10, z11, z13, z3b, z3c, z3f, z4e, z4f, z4g, z4h, z4i, z4p, z4q, z4r, z4s, z4t, z4u, z4w, z4x, z4y, z4z, z53, z7n, Nat.reduceSub, e4, bin_shl hp]
theorem run149 {I : Intr} (h1 : I 149 = none) {N : Nat} {h : Hp} {ab : Nat} : evalV Tryz.prog I (N + 1) (.fn 149) #[.pointer (some ⟨ab, 0, none⟩)] h = some (.func (.func 205) #[] #[.pointer (some ⟨h.size, 0, none⟩)], h.push (some (.cells #[.pointer (some ⟨ab, 0, none⟩)] true))) := by
  rw [evalV_call (P := Tryz.prog) (intr := I) (f := 149) (m := 4) (rs := #[.tmp 2]) h1 Tryz.func149 rfl rfl rfl]
  simp (maxDischargeDepth := 16) only [z05, z08, z09, z0d, z0e, z0o, z0p, z0q, z0s, z0t, z0v, z0w, z11, z1d, z1h, z2p, z3b, z3c, z3f, z4e, z4f, z4g, z4h, z4i, z4j, z4k, z4l, z4p, z4q, z4r, z4s, z4t, z4u, z4w, z4x, z4y, z4z, z53, z7n, Nat.reduceSub]
theorem run205 {I : Intr} (h1 : I 205 = none) (h2 : I 206 = none) (h3 : I 119 = none) {N : Nat} {k : Hp} {ab wb n cap e B l : Nat} {ws : Array Value} {o1 o2 o3 : Bool} (hA : k.get ab = some (.cells #[.slice (some ⟨wb, 0, none⟩) n cap] o1)) (hW : k.get wb = some (.cells ws o2)) (hB : k.get B = some (.cells #[.pointer (some ⟨ab, 0, none⟩)] o3))
    (nA : ab < k.size) (nW : wb < k.size) (nB : B < k.size) (he : wd ws 15 = some e) (hen : e ≤ n) (hn : 15 < n) (hnn : n < 4611686018427387904) (hro : k.ro ≤ k.size) (hN : e + 20 < N)
    (place : Int) {res : Nat × Nat × Bool} (Inv : Hp → Prop) (F : Hp → Prop)
    (hInv : ∀ h, Inv h → Keeps k h ∧ h.ro = k.ro)
    (hmono : ∀ h h', Inv h → Keeps h h' → h'.ro = h.ro → Inv h')
    (hy : ∀ h hd at', Inv h → 16 ≤ hd → hd < 28 → at' < e → ∃ b h', evalV Tryz.prog I N (.yield l) #[.agg #[.int .i64 ((at' + 1 : Nat) : Int), .int .i64 (((hd - 16) / 2 : Nat) : Int)], .bool (Nat.beq (hd % 2) 1)] h = some (.bool b, h') ∧
      (if (Nat.beq (hd % 2) 1 && decide (((at' + 1 : Nat) : Int) = place)) = true then b = false ∧ (res = (at' + 1, (hd - 16) / 2, true) → F h') else b = true ∧ Inv h'))
    (hend : ∀ h, Inv h → res = (0, 0, false) → F h) (hres : walkF ws e place (N - 10) 16 = some res)
    {h0 : Hp} (h00 : Inv h0) :
    ∃ v h', evalV Tryz.prog I (N + 1) (.fn 205) #[.func (.yield l) #[] #[], .pointer (some ⟨B, 0, none⟩)] h0 = some (v, h') ∧ F h' := by
  obtain ⟨w15, eb⟩ := wd_is he
  rw [evalV_call (P := Tryz.prog) (intr := I) (f := 205) (m := 43) (rs := #[]) h1 Tryz.func205 rfl rfl rfl]
  simp (maxDischargeDepth := 16) only [z08, z09, z0d, z0e, z0p, z0q, z0s, z0t, z0w, z11, z4g, z4h, z4i, z4p, z4q, z4r, z4s, z4t, z4u, z4w, z4x, z4y, z53, z7n, evalC_block, Nat.reduceAdd, Nat.reduceSub]
  refine loop_rule (fun r : Option (Value × Hp) => ∃ v h', r = some (v, h') ∧ F h') (fun m z h => ∃ at' f : Nat, m = e - at' ∧ walkF ws e place f at' = some res ∧ Inv h ∧ at' < 4611686018427387904 ∧
    z.tmps.size = 43 ∧ z.defers = [] ∧ z.tmps.getD 0 undef = .func (.yield l) #[] #[] ∧ z.tmps.getD 1 undef = .pointer (some ⟨B, 0, none⟩) ∧ z.tmps.getD 3 undef = .int .i64 (at' : Int)) ?_ _ (e - 16) _ _ ?_ ?_
  · intro m n' z h hI' ih
    obtain ⟨at', f, hm, hwf, hin, hat, hxs, hxd, l0, l1, l3⟩ := hI'
    obtain ⟨g, rfl⟩ : ∃ g : Nat → Value, z = { tmps := #[.func (.yield l) #[] #[], .pointer (some ⟨B, 0, none⟩), g 2, .int .i64 (at' : Int), g 4, g 5, g 6, g 7, g 8, g 9, g 10, g 11, g 12, g 13, g 14, g 15, g 16, g 17, g 18, g 19, g 20, g 21, g 22, g 23, g 24, g 25, g 26, g 27, g 28, g 29, g 30, g 31, g 32, g 33, g 34, g 35, g 36, g 37, g 38, g 39, g 40, g 41, g 42], defers := [] } := ⟨fun k => z.tmps.getD k undef, (act_eta hxs hxd).trans (by simp only [unrollL, Nat.reduceAdd, Nat.zero_add, l0, l1, l3])⟩; clear hxs hxd l0 l1 l3
    obtain ⟨hk, hr⟩ := hInv h hin
    have hs := hk.size
    have hA' := (hk.get ab nA).trans hA
    have hB' := (hk.get B nB).trans hB
    have hW' := (hk.get wb nW).trans hW
    have nA' : ab < h.size := by omega
    have nB' : B < h.size := by omega
    have nW' : wb < h.size := by omega
    have c15 : ((15 : Int) < (n : Int)) = True := eq_true (by omega)
    have we : IntKind.i64.wrap (e : Int) = (e : Int) := i64_in (by omega) (by omega)
    cases f with
    | zero => cases hwf
    | succ f =>
      simp only [walkF] at hwf
      by_cases hlt : at' < e
      · have hb : Nat.blt at' e = true := Nat.ble_eq_true_of_le hlt
        rw [hb] at hwf
        have hlt' := lt_cast hlt
        cases hwd : wd ws at' with
        | none => rw [hwd] at hwf; cases hwf
        | some hd =>
          rw [hwd] at hwf
          obtain ⟨wat, -⟩ := wd_is hwd
          cases hh : (Nat.ble 16 hd && Nat.blt hd 28) with
          | false => simp only [hh] at hwf; cases hwf
          | true =>
            simp only [hh] at hwf
            rw [Bool.and_eq_true] at hh
            have g1 : 16 ≤ hd := Nat.le_of_ble_eq_true hh.1
            have g2 : hd < 28 := Nat.le_of_ble_eq_true hh.2
            obtain ⟨-, -, hbit, -⟩ := head_is g1 g2
            obtain ⟨N, rfl⟩ : ∃ n, N = n + 1 := ⟨N - 1, by omega⟩
            have c206 := fun k => run206 (I := I) h2 (N := N) (h := k) g1 g2
            have c119 := fun k => run119 (I := I) h3 (N := N) (h := k) g1 g2
            have hat0 : (0 ≤ (at' : Int)) = True := eq_true (by omega)
            have hatn : ((at' : Int) < (n : Int)) = True := eq_true (by omega)
            have w1 : IntKind.i64.wrap ((at' : Int) + 1) = ((at' + 1 : Nat) : Int) := i64_succ (by omega)
            have hp2 : 2 ^ ((hd - 16) / 2) ≤ 32 := by
              have : (hd - 16) / 2 ≤ 5 := by omega
              calc 2 ^ ((hd - 16) / 2) ≤ 2 ^ 5 := Nat.pow_le_pow_right (by decide) this
                _ = 32 := rfl
            obtain ⟨b, h', hyv, hif⟩ := hy h hd at' hin g1 g2 hlt
            generalize hq : 2 ^ ((hd - 16) / 2) = q at *
            have w2 : IntKind.i64.wrap (1 + (q : Int)) = ((1 + q : Nat) : Int) := by rw [i64_in (by omega) (by omega)]; omega
            have w3 : IntKind.i64.wrap ((at' : Int) + ((1 + q : Nat) : Int)) = ((at' + (1 + q) : Nat) : Int) := by rw [i64_in (by omega) (by omega)]; omega
            simp (maxDischargeDepth := 16) only [z04, z08, z09, z0a, z0b, z0d, z0e, z0p, z0q, z0s, z0t, z0v, z0w, z0x, z0z, z10, z11, z13, z14, z15, z16, z18, z1b, z1c, z1e, z1l, z1v, z1z, z21, z24, z27, z2c, z2d, z2h, z2m, z2u, z2w, z2x, z3b, z3h, z3i, z3v, z3w, z46, z49, z4e, z4f, z4g, z4h, z4i, z4j, z4k, z4l, z4m, z4n, z4p, z4q, z4r, z4s, z4u, z4v, z4z, z50, z51, z53, z54, z5a, z72, z7n, z7z, z80, z81, z82, z83, evalC_block, Nat.reduceLeDiff, Nat.reduceAdd, ↓reduceIte, Int.reduceLE, Int.reduceToNat, Hp.cell, hasBx206, tBuildFx152x0, tBuildFx152x1, tBuildOkx152, tElemx22, tFieldAx99x0, tIntx85x3, tPartx22, tPartx40, tPartx85, tZerox152, hA', hB', hW', ne_f nA', ne_f0 nA', lt_t nA', lt_t0 nA', ne_f nB', ne_f0 nB', lt_t nB', lt_t0 nB', ne_f nW', ne_f0 nW', lt_t nW', lt_t0 nW', c15, w15, we, hlt', hat0, hatn, wat, Int.toNat_natCast, Nat.mul_one, c206, w1, hbit, Bool.not_not, hyv]
            cases hc : (Nat.beq (hd % 2) 1 && decide (((at' + 1 : Nat) : Int) = place)) with
            | true =>
              rw [hc, if_pos rfl] at hif
              simp only [hc] at hwf
              obtain ⟨rfl, hF⟩ := hif
              simp (maxDischargeDepth := 16) only [z05, z0b, z0f, z0i, z0l, z0o, z3e, z5d]
              exact ⟨_, _, rfl, hF (Option.some.inj hwf).symm⟩
            | false =>
              rw [hc, if_neg (by simp)] at hif
              simp only [hc] at hwf
              obtain ⟨rfl, hI2⟩ := hif
              simp (maxDischargeDepth := 16) only [z04, z08, z0c, z0d, z0e, z0h, z0k, z0p, z0q, z0s, z0t, z0v, z0w, z0x, z0z, z10, z11, z13, z1l, z24, z3b, z3h, z4e, z4f, z4g, z4h, z4i, z4j, z4k, z4l, z4s, z4u, z4v, z5c, z7n, ↓reduceIte, hasBx119, c119, w2, w3]
              rw [Nat.add_assoc] at hwf
              exact ih (e - (at' + (1 + q))) _ _ (by omega) ⟨at' + (1 + q), f, rfl, hwf, hI2, by omega, rfl, rfl, rfl, rfl, rfl⟩
      · have hb : Nat.blt at' e = false := by
          cases hb : Nat.blt at' e with
          | false => rfl
          | true => exact absurd (Nat.le_of_ble_eq_true hb) hlt
        rw [hb] at hwf
        have hlt' : ((at' : Int) < (e : Int)) = False := eq_false (by omega)
        simp (maxDischargeDepth := 16) only [z06, z08, z09, z0a, z0c, z0d, z0e, z0g, z0j, z0m, z0n, z0p, z0q, z0s, z0t, z0v, z0w, z0z, z10, z13, z15, z16, z18, z1c, z1e, z1v, z1z, z21, z2d, z2u, z2w, z2x, z3b, z3e, z4e, z4f, z4g, z4h, z4i, z4m, z4n, z50, z51, z53, z54, z5b, z7n, z7z, ↓reduceIte, Int.reduceLE, Int.reduceToNat, Hp.cell, tElemx22, tFieldAx99x0, tIntx85x3, tPartx22, tPartx40, tPartx85, hA', hB', hW', ne_f nA', ne_f0 nA', lt_t nA', lt_t0 nA', ne_f nB', ne_f0 nB', lt_t nB', lt_t0 nB', ne_f nW', ne_f0 nW', lt_t nW', lt_t0 nW', c15, w15, we, hlt', Nat.mul_one]
        exact ⟨_, _, rfl, hend h hin (Option.some.inj hwf).symm⟩
  · omega
  · exact ⟨16, N - 10, rfl, hres, h00, by omega, rfl, rfl, rfl, rfl, rfl⟩
end Go.Abs.D1
