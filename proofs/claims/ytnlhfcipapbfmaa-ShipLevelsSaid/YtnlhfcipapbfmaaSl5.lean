/- ShipLevels, run. -/
import Derived.Test.YtnlhfcipapbfmaaSl4
import Derived.Test.YtnlhfcipapbfmaaSh17
import Derived.Test.YtnlhfcipapbfmaaSh1
namespace Go.Abs.B1
open Go.Proofs
set_option maxRecDepth 10000
set_option maxHeartbeats 8000000
set_option linter.all false
noncomputable abbrev g12 := gT
noncomputable def TS8 : TB := [(12, g12), (15, g15), (23, g23), (27, g27), (33, g33), (34, g34), (55, g55), (57, g57), (68, g68), (76, g76)]
noncomputable abbrev IS8 : Intr := fun f => TS8.lookup f
theorem okS8 : IntrOk Try.prog (CKb Try.prog) IS8 := Con.table fun x hx => by
  simp only [TS8, List.mem_cons, List.not_mem_nil, or_false] at hx
  rcases hx with rfl | rfl | rfl | rfl | rfl | rfl | rfl | rfl | rfl | rfl
  · exact con12
  · exact con15
  · exact con23
  · exact con27
  · exact con33
  · exact con34
  · exact con55
  · exact con57
  · exact con68
  · exact con76
/-- Two views, each in a cell. -/
structure Two (h : Hp) (q k : Hp) (cA cB : List Value) (A B : T36) : Prop where
  keeps : Keeps h k
  ro : k.ro = h.ro
  hq : h.size ≤ q.size
  size : q.size + 2 ≤ k.size
  gA : k.get q.size = some (.cells cA.toArray true)
  gB : k.get (q.size + 1) = some (.cells cB.toArray true)
  rA : R36.r false (fun b => b < k.size ∧ b ≠ q.size ∧ b ≠ q.size + 1) k cA A
  rB : R36.r false (fun b => b < k.size ∧ b ≠ q.size ∧ b ≠ q.size + 1) k cB B
theorem Two.keep {h q k k2 : Hp} {cA cB : List Value} {A B : T36} (t : Two h q k cA cB A B) (hk : Keeps k k2) (hr : k2.ro = k.ro) : Two h q k2 cA cB A B :=
  have hs := hk.size
  have h2 := t.size
  ⟨t.keeps.trans hk, hr.trans t.ro, t.hq, by omega, (hk.get _ (by omega)).trans t.gA, (hk.get _ (by omega)).trans t.gB, R36.mono t.rA (fun b hb => ⟨by omega, hb.2⟩) id (hk.fr fun b hb => hb.1), R36.mono t.rB (fun b hb => ⟨by omega, hb.2⟩) id (hk.fr fun b hb => hb.1)⟩
theorem i2 : IntKind.i64.min ≤ (2 : Int) ∧ (2 : Int) ≤ IntKind.i64.max := by decide
def hvD (ok : Bool) (i : Int) : T47 := (2, 0, 0, 0, (0, 0), [], 0, ok, i, 0, ((0, 0), [], ((0, 0), (0, 0), (0, 0))), 0, [], 0)
theorem f23_hv (m l : Int) (ok : Bool) (i : Int) : f23 m l (hvD ok i) = min (if ok = true then max m i else i) l := by unfold f23; rw [if_pos (show (hvD ok i).1 = 2 from rfl)]; rfl
theorem f23_b {m l : Int} {ok : Bool} {i : Int} (hm : IntKind.u64.min ≤ m ∧ m ≤ IntKind.u64.max) (hl : IntKind.u64.min ≤ l ∧ l ≤ IntKind.u64.max) (hi : IntKind.u64.min ≤ i ∧ i ≤ IntKind.u64.max) : IntKind.u64.min ≤ f23 m l (hvD ok i) ∧ f23 m l (hvD ok i) ≤ IntKind.u64.max := by
  rw [f23_hv]; split <;> omega
theorem offD_base (A : T36) (m : Int) : (offD A m).1 = 3 → (offD A m).2.2.2.2.2.2.2.2.2.2.1.1.1 = A.2.1.1.1 := by
  unfold offD
  split
  · intro _; rfl
  · intro h; exact absurd h (by show ¬ (1 : Int) = 3; decide)
theorem acc_len' (x : T36) (y : T47) : (accD x y).2.2.1.length ≤ (entsY y).length := by
  unfold accD
  split
  · simp
  · split
    · simp
    · cases hf : (List.range (entsY y).length).find? (isNew x y) with
      | none => simp [foundD]
      | some i => simp [foundD]
theorem offD_ups {A : T36} (hA : Small A) (m : Int) : ∀ e ∈ entsY (offD A m), e.2.2.2.length ≤ 9 := by
  unfold offD
  split
  · intro e he; exact absurd he (by simp [entsY])
  · intro e he; exact hA.ups e (List.mem_of_mem_drop (List.mem_of_mem_take he))
theorem run8 (h : Hp) (cs : List Value) (x : T106) (m0 : Int) (hm0 : IntKind.u64.min ≤ m0 ∧ m0 ≤ IntKind.u64.max) (r : R106.r false (· < h.size) h cs x) (hro : h.ro ≤ h.size) : ∃ N, Al h (fun _ w => w = .bool true) (evalV Try.prog IS8 N (.fn 8) #[.agg cs.toArray, .int .u64 m0] h) := by
  obtain ⟨N, hN⟩ : ∃ N, N = 3000 := ⟨_, rfl⟩
  refine ⟨N + 1, ?_⟩
  have r0 := r
  obtain ⟨v1, rfl, b1, b2, b3, hv1, b4, b5⟩ := R106_inv r
  have o1 : oneC v1 = true := (Rp.slice (Rp.int .i64)).rone hv1 v1 (by simp)
  have p0 : (h.ro ≤ h.size) = True := eq_true hro
  have c12' : ∀ k, evalV Try.prog IS8 N (.fn 12) #[] k = some (.bool true, k) := fun k => by obtain ⟨n, rfl⟩ : ∃ n, N = n + 1 := ⟨N - 1, by omega⟩; exact (evalV_intr (g := g12) rfl).trans rfl
  rw [evalV_call (P := Try.prog) (intr := IS8) (f := 8) (m := 138) (rs := #[.tmp 4]) rfl Try.func8 rfl rfl rfl]
  simp (maxDischargeDepth := 16) only [z04, z08, z09, z0a, z0c, z0d, z0e, z0p, z0q, z0s, z0t, z0v, z0w, z0x, z0z, z11, z14, z1e, z1h, z1l, z1v, z2h, z2o, z2x, z34, z3b, z3h, z3x, z3y, z3z, z41, z43, z46, z4e, z4f, z4g, z4h, z4i, z4j, z4k, z4l, z4p, z4q, z4r, z4s, z4t, z4u, z4v, z4w, z4x, z4y, z4z, z53, z5c, Nat.reduceAdd, Nat.reduceSub, ↓reduceIte, Hp.row, hasBx12, hasBx40, tPartx106, c12']
  refine al_kops (run40 (I := IS8) rfl rfl rfl rfl rfl (N := N) (R106.mono r0 (fun b hb => by simp only [Hp.size_push]; omega) id (Fr.of fun b hb => get_push_ne (by omega))) (by simp only [Hp.ro_push, Hp.size_push]; omega) (by omega)) ?_
  rintro _ q hq hqr ⟨csA, csB, rfl, hA, hB⟩
  obtain ⟨M1, M2, M3, M4, na, nb, a, M5⟩ := made_law x m0 (u64_bounds hm0).1
  have hsq := hq.size
  have hq0 : Keeps h q := Keeps.trans (by repeat (first | assumption | exact Keeps.refl _ | refine Keeps.push ?_ _ | refine Keeps.set ?_ (by first | omega | (simp only [Hp.size_push, Hp.size_setB]; omega)) _)) hq
  simp only [Hp.size_push, Hp.ro_push] at hsq hqr
  generalize madeA x = A at *
  generalize hMB : madeB x = B0 at *
  have c33 := call_rdk (P := Try.prog) (A := A36) (I := IS8) (f := 33) (spec := fun x => .int .u64 (f55 x.1)) rfl N (show A36.r (· < q.size) q [_] (A, ()) from ⟨_, _, rfl, hA, rfl⟩) (by omega)
  have M55 : IntKind.u64.min ≤ f55 A ∧ f55 A ≤ IntKind.u64.max := by rw [M5.a55]; have := M5.al; constructor <;> simp [IntKind.min, IntKind.max, IntKind.bits, IntKind.signed] <;> omega
  obtain ⟨a1, a2, rfl, A1, A2, A3, hA1, A4, A5, A6, A7, A8, A9, hA2⟩ := R36_inv hA
  obtain ⟨e1, e2, rfl, B1, B2, B3, hB1, B4, B5, B6, B7, B8, B9, hB2⟩ := R36_inv hB
  have oa1 : oneC a1 = true := R25.rone hA1 a1 (by simp)
  have oa2 : oneC a2 = true := R34.rone hA2 a2 (by simp)
  have oe1 : oneC e1 = true := R25.rone hB1 e1 (by simp)
  have oe2 : oneC e2 = true := R34.rone hB2 e2 (by simp)
  have va1 := fun s0 (hh : q.size ≤ s0) kept bits => vb_old (s0 := s0) (kept := kept) (bits := bits) (vin_mono (fun b hb => Nat.lt_of_lt_of_le hb hh) (R25.rvin hA1 a1 (by simp)))
  have va2 := fun s0 (hh : q.size ≤ s0) kept bits => vb_old (s0 := s0) (kept := kept) (bits := bits) (vin_mono (fun b hb => Nat.lt_of_lt_of_le hb hh) (R34.rvin hA2 a2 (by simp)))
  obtain ⟨oa, ca, rfl, -, -⟩ := slice_form hA2
  obtain ⟨ob, cb, rfl, -, -⟩ := slice_form hB2
  have qro : (q.ro ≤ q.size) = True := eq_true (by omega)
  have qro1 : ∀ j, (q.ro ≤ q.size + j) = True := fun j => eq_true (by omega)
  obtain ⟨T, hT⟩ : ∃ T : Nat, T = B0.2.2.length + 12 := ⟨_, rfl⟩
  have wT : IntKind.i64.wrap ((B0.2.2.length : Int) + 12) = (T : Int) := by rw [i64_in (by omega) (by omega)]; omega
  simp (maxDischargeDepth := 16) only [z08, z09, z0d, z0e, z0p, z0q, z0s, z0t, z0u, z0v, z0w, z0z, z10, z13, z16, z1a, z1e, z1f, z1g, z1p, z1r, z1v, z1w, z1x, z24, z2o, z2t, z2w, z2x, z2y, z2z, z33, z34, z35, z37, z38, z39, z3b, z3p, z3v, z3w, z44, z45, z46, z49, z4a, z4c, z4d, z4e, z4f, z4g, z4h, z4i, z4m, z4n, z4o, z4p, z4q, z4r, z4z, z50, z51, z53, z5f, z72, evalC_block, Nat.reduceAdd, ↓reduceIte, Hp.cell, Hp.wr, tFieldAx36x2, tLenx34, tPartx34, tSizex36, tZerox36, oa1, oa2, oe1, oe2, qro, qro1, wT]
  refine loop_rule (Al h _) (fun w y k' => ∃ (i : Nat) (m : Int) (B : T36) (cB : List Value), w = T - i ∧ i ≤ T ∧ turnsN A (m0, B0) i = (m, B) ∧ (IntKind.u64.min ≤ m ∧ m ≤ IntKind.u64.max) ∧ Two h q k' [.int .u64 A.1, .int .u64 A.2.1.1.1, .int .u64 A.2.1.1.2, a1, .int .u32 A.2.1.2.2.1.1, .int .u64 A.2.1.2.2.1.2, .int .u32 A.2.1.2.2.2.1.1, .int .u64 A.2.1.2.2.2.1.2, .int .u32 A.2.1.2.2.2.2.1, .int .u64 A.2.1.2.2.2.2.2, .slice oa A.2.2.length ca] cB A B ∧ Keeps q k' ∧
    y.tmps.size = 138 ∧ y.defers = [] ∧ y.tmps.getD 1 undef = .int .u64 m ∧ y.tmps.getD 5 undef = .pointer (some ⟨q.size, 0, none⟩) ∧ y.tmps.getD 6 undef = .pointer (some ⟨q.size + 1, 0, none⟩) ∧ y.tmps.getD 27 undef = .int .i64 (T : Int) ∧ y.tmps.getD 28 undef = .int .i64 (i : Int)) ?_ _ T _ _ ?_ ?_
  · intro w n' y k' hI' ih
    obtain ⟨i, m, B, cB, hw, hi, hst, hm, h2, hQ, hxs, hxd, l1, l5, l6, l27, l28⟩ := hI'
    obtain ⟨g, rfl⟩ : ∃ g : Nat → Value, y = { tmps := #[g 0, .int .u64 m, g 2, g 3, g 4, .pointer (some ⟨q.size, 0, none⟩), .pointer (some ⟨q.size + 1, 0, none⟩), g 7, g 8, g 9, g 10, g 11, g 12, g 13, g 14, g 15, g 16, g 17, g 18, g 19, g 20, g 21, g 22, g 23, g 24, g 25, g 26, .int .i64 (T : Int), .int .i64 (i : Int), g 29, g 30, g 31, g 32, g 33, g 34, g 35, g 36, g 37, g 38, g 39, g 40, g 41, g 42, g 43, g 44, g 45, g 46, g 47, g 48, g 49, g 50, g 51, g 52, g 53, g 54, g 55, g 56, g 57, g 58, g 59, g 60, g 61, g 62, g 63, g 64, g 65, g 66, g 67, g 68, g 69, g 70, g 71, g 72, g 73, g 74, g 75, g 76, g 77, g 78, g 79, g 80, g 81, g 82, g 83, g 84, g 85, g 86, g 87, g 88, g 89, g 90, g 91, g 92, g 93, g 94, g 95, g 96, g 97, g 98, g 99, g 100, g 101, g 102, g 103, g 104, g 105, g 106, g 107, g 108, g 109, g 110, g 111, g 112, g 113, g 114, g 115, g 116, g 117, g 118, g 119, g 120, g 121, g 122, g 123, g 124, g 125, g 126, g 127, g 128, g 129, g 130, g 131, g 132, g 133, g 134, g 135, g 136, g 137], defers := [] } := ⟨fun k => y.tmps.getD k undef, (act_eta hxs hxd).trans (by simp only [unrollL, Nat.reduceAdd, Nat.zero_add, l1, l5, l6, l27, l28])⟩; clear hxs hxd l1 l5 l6 l27 l28
    have hAr := h2.rA
    have hBr := h2.rB
    have gA := h2.gA
    have gB := h2.gB
    have hs2 := h2.size
    have hq2 := h2.hq
    have nA : q.size < k'.size := by omega
    have nB : q.size + 1 < k'.size := by omega
    have kro : (k'.ro ≤ k'.size) = True := eq_true (by rw [h2.ro]; omega)
    have kro1 : ∀ j, (k'.ro ≤ k'.size + j) = True := fun j => eq_true (by rw [h2.ro]; omega)
    obtain ⟨e1, e2, rfl, B1, B2, B3, hB1, B4, B5, B6, B7, B8, B9, hB2⟩ := R36_inv hBr
    have oe1 : oneC e1 = true := R25.rone hB1 e1 (by simp)
    have oe2 : oneC e2 = true := R34.rone hB2 e2 (by simp)
    obtain ⟨ob, cb, rfl, -, -⟩ := slice_form hB2
    by_cases hlt : i < T
    · have hlt' := lt_cast hlt
      obtain ⟨q1, q2, q3⟩ := dec_meas hlt hw
      have w3 := i64_succ (i := i) (by omega)
      have hok := M3 i
      rw [hst] at hok
      simp (maxDischargeDepth := 16) only [z04, z08, z09, z0a, z0b, z0d, z0e, z0p, z0q, z0s, z0t, z0v, z0x, z0z, z10, z13, z1e, z1l, z1v, z2d, z2x, z3b, z3h, z3x, z3y, z3z, z41, z43, z46, z4e, z4f, z4g, z4h, z4i, z4j, z4k, z4l, z4p, z4q, z4r, z4s, z4u, z4v, z4z, z53, z5a, evalC_block, Nat.reduceAdd, Nat.reduceSub, ↓reduceIte, Hp.row, hasBx16, tPartx36, hlt', gA, ne_f nA, ne_f0 nA, lt_t nA, lt_t0 nA, ne_f nB, ne_f0 nB, lt_t nB, lt_t0 nB]
      refine al_kops (run16 (I := IS8) (N := N) (p := fun b => b < k'.size ∧ b ≠ q.size ∧ b ≠ q.size + 1) rfl rfl rfl rfl rfl rfl rfl rfl hAr (fun b hb => hb.1) (by rw [h2.ro]; omega) M2 (by omega) m hm) ?_
      rintro _ k2 hk2 hr2 ⟨ds, rfl, hR⟩
      rw [if_pos M1] at hR
      have hT2 := h2.keep hk2 hr2
      have hs3 := hk2.size
      have okT := hok.took
      have okA := hok.acc
      have hstep : turnsN A (m0, B0) (i + 1) = stepL A (m, B) := by show stepL A (turnsN A (m0, B0) i) = _; rw [hst]
      unfold stepL at hstep
      dsimp only at okT okA hstep
      have hOb := offD_base A m
      have hOu := offD_ups M2 m
      generalize offD A m = O at *
      have hR0 := hR
      obtain ⟨y1, y2, y3, rfl, yb1, yb2, yb3, yb4, yb5, yb6, hy1, yb7, yb8, yb9, yb10, yb11, hy2, yb12, yb13, yb14, yb15, yb16, yb17, yb18, hy3, yb19⟩ := R47_inv hR
      have oy1 : oneC y1 = true := R34.rone hy1 y1 (by simp)
      have oy2 : oneC y2 = true := R25.rone hy2 y2 (by simp)
      have oy3 : oneC y3 = true := R43.rone hy3 y3 (by simp)
      have k2ro : (k2.ro ≤ k2.size) = True := eq_true (by rw [hT2.ro]; omega)
      have k2ro1 : ∀ j, (k2.ro ≤ k2.size + j) = True := fun j => eq_true (by rw [hT2.ro]; omega)
      have gB2 := hT2.gB
      have nB2 : q.size + 1 < k2.size := by omega
      have nO : k2.size < k2.size + 2 := by omega
      by_cases qst : O.1 = 3
      · have q3' := eq_true qst
        simp (maxDischargeDepth := 16) only [z04, z08, z09, z0a, z0b, z0c, z0d, z0e, z0p, z0q, z0s, z0t, z0u, z0v, z0w, z0x, z0z, z10, z11, z13, z16, z1a, z1b, z1e, z1f, z1g, z1l, z1v, z1w, z1x, z2b, z2c, z2m, z2o, z2t, z2w, z2x, z2y, z2z, z33, z34, z35, z38, z39, z3b, z3h, z3p, z3q, z3s, z3v, z3w, z3x, z3y, z3z, z41, z43, z44, z45, z46, z49, z4a, z4b, z4c, z4d, z4e, z4f, z4g, z4h, z4i, z4j, z4k, z4l, z4m, z4n, z4o, z4p, z4q, z4r, z4s, z4u, z4v, z4z, z50, z51, z53, z54, z5a, z5c, z5f, z72, z80, z81, z82, z83, Nat.reduceLeDiff, Nat.reduceAdd, Nat.reduceSub, ↓reduceIte, Hp.cell, Hp.row, Hp.wr, hasBx27, tBuildFx47x0, tBuildOkx47, tFieldAx47x0, tPartx3, tPartx36, tPartx47, tSizex47, tZerox47, oy1, oy2, oy3, k2ro, k2ro1, M1, q3', gB2, ne_f nB2, ne_f0 nB2, lt_t nB2, lt_t0 nB2]
        refine ex_ev (S := fun v k3 => v = .tuple #[.bool false, .int .i64 0] ∧ Keeps k2 k3 ∧ k3.ro = k2.ro ∧ k3.size = k2.size + 2 ∧ k3.get k2.size = some (.cells #[.int .i64 O.1, .int .i64 O.2.1, .int .i64 O.2.2.1, .int .u64 O.2.2.2.1, .int .u64 O.2.2.2.2.1.1, .int .u64 O.2.2.2.2.1.2, y1, .int .u64 O.2.2.2.2.2.2.1, .bool O.2.2.2.2.2.2.2.1, .int .u64 O.2.2.2.2.2.2.2.2.1, .int .u64 O.2.2.2.2.2.2.2.2.2.1, .int .u64 O.2.2.2.2.2.2.2.2.2.2.1.1.1, .int .u64 O.2.2.2.2.2.2.2.2.2.2.1.1.2, y2, .int .u32 O.2.2.2.2.2.2.2.2.2.2.1.2.2.1.1, .int .u64 O.2.2.2.2.2.2.2.2.2.2.1.2.2.1.2, .int .u32 O.2.2.2.2.2.2.2.2.2.2.1.2.2.2.1.1, .int .u64 O.2.2.2.2.2.2.2.2.2.2.1.2.2.2.1.2, .int .u32 O.2.2.2.2.2.2.2.2.2.2.1.2.2.2.2.1, .int .u64 O.2.2.2.2.2.2.2.2.2.2.1.2.2.2.2.2, .int .u32 O.2.2.2.2.2.2.2.2.2.2.2.1, y3, .int .i64 O.2.2.2.2.2.2.2.2.2.2.2.2.2] true) ∧ k3.get (k2.size + 1) = some (.cells #[.int .i64 2, .int .i64 0, .int .i64 0, .int .u64 0, .int .u64 0, .int .u64 0, .slice none 0 0, .int .u64 0, .bool false, .int .u64 0, .int .u64 0, .int .u64 0, .int .u64 0, .slice none 0 0, .int .u32 0, .int .u64 0, .int .u32 0, .int .u64 0, .int .u32 0, .int .u64 0, .int .u32 0, .slice none 0 0, .int .i64 0] true)) (Al h _) (fun k0 hk0 => ?_) ?_
        · have kk0 : Keeps k2 k0 := by rw [hk0]; exact (by repeat (first | assumption | exact Keeps.refl _ | refine Keeps.push ?_ _ | refine Keeps.set ?_ (by first | omega | (simp only [Hp.size_push, Hp.size_setB]; omega)) _))
          have ro0 : k0.ro = k2.ro := by rw [hk0]; simp only [Hp.ro_setB, Hp.ro_push]
          have sz0 : k0.size = k2.size + 2 := by rw [hk0]; simp only [Hp.size_setB, Hp.size_push]
          have g5 : k0.get k2.size = some (.cells #[.int .i64 O.1, .int .i64 O.2.1, .int .i64 O.2.2.1, .int .u64 O.2.2.2.1, .int .u64 O.2.2.2.2.1.1, .int .u64 O.2.2.2.2.1.2, y1, .int .u64 O.2.2.2.2.2.2.1, .bool O.2.2.2.2.2.2.2.1, .int .u64 O.2.2.2.2.2.2.2.2.1, .int .u64 O.2.2.2.2.2.2.2.2.2.1, .int .u64 O.2.2.2.2.2.2.2.2.2.2.1.1.1, .int .u64 O.2.2.2.2.2.2.2.2.2.2.1.1.2, y2, .int .u32 O.2.2.2.2.2.2.2.2.2.2.1.2.2.1.1, .int .u64 O.2.2.2.2.2.2.2.2.2.2.1.2.2.1.2, .int .u32 O.2.2.2.2.2.2.2.2.2.2.1.2.2.2.1.1, .int .u64 O.2.2.2.2.2.2.2.2.2.2.1.2.2.2.1.2, .int .u32 O.2.2.2.2.2.2.2.2.2.2.1.2.2.2.2.1, .int .u64 O.2.2.2.2.2.2.2.2.2.2.1.2.2.2.2.2, .int .u32 O.2.2.2.2.2.2.2.2.2.2.2.1, y3, .int .i64 O.2.2.2.2.2.2.2.2.2.2.2.2.2] true) := by rw [hk0]; simp (maxDischargeDepth := 16) only [z33, z34, z35, z38, z39, z4a, z4b, ↓reduceIte]
          have g6 : k0.get (k2.size + 1) = some (.cells #[.int .i64 2, .int .i64 0, .int .i64 0, .int .u64 0, .int .u64 0, .int .u64 0, .slice none 0 0, .int .u64 0, .bool false, .int .u64 0, .int .u64 0, .int .u64 0, .int .u64 0, .slice none 0 0, .int .u32 0, .int .u64 0, .int .u32 0, .int .u64 0, .int .u32 0, .int .u64 0, .int .u32 0, .slice none 0 0, .int .i64 0] true) := by rw [hk0]; simp (maxDischargeDepth := 16) only [z33]
          have c27 := call_rdk (P := Try.prog) (A := Avm) (I := IS8) (f := 27) (spec := fun x => .tuple #[.bool (f27 x.1 x.2.1).1, .int .i64 (f27 x.1 x.2.1).2]) rfl N (show Avm.r (· < k0.size) k0 [_, _] (B, O, ()) from ⟨_, _, rfl, R36.mono hT2.rB (fun b hb => by have := hb.1; omega) id (kk0.fr fun b hb => hb.1), _, _, rfl, R47.mono hR0 (fun b hb => by have := hb.2; omega) (by simp) (kk0.fr fun b hb => hb.2), rfl⟩) (by omega)
          rw [okT qst] at c27
          exact ⟨_, _, c27 k0 (Keeps.refl _), rfl, kk0, ro0, sz0, g5, g6⟩
        rintro _ k3 ⟨rfl, kk3, ro3, sz3, gO3, gH3⟩
        have nO3 : k2.size < k3.size := by omega
        have nH3 : k2.size + 1 < k3.size := by omega
        have r3 : ∀ j, (k3.ro ≤ k2.size + j) = True := fun j => eq_true (by rw [ro3, hT2.ro]; omega)
        simp (maxDischargeDepth := 16) only [z04, z08, z09, z0a, z0c, z0d, z0e, z0p, z0q, z0s, z0t, z0v, z0w, z0z, z10, z11, z13, z1a, z2c, z2t, z3b, z4e, z4f, z4g, z4h, z4i, z4m, z4n, z4o, z5a, z5c, z7t]
        rw [evalDraw_modes _ _ [(0, 0, 1), (0, 1, 3), (0, 3, 7), (3, 7, 15), (0, 0, 16), (5, 8, 48), (0, 63, 127), (4, 127, 255)] (by kernel_rfl)]
        simp (maxDischargeDepth := 16) only [z0d, z0e, z0t, z0u, z0v, z0w, z0z, z16, z1e, z1f, z1v, z1w, z1x, z2m, z2n, z2w, z2x, z2y, z33, z35, z37, z39, z3b, z3p, z3q, z3v, z3w, z44, z45, z46, z49, z4b, z4d, z4e, z4f, z4g, z4h, z4i, z4m, z4n, z4o, z4p, z4q, z4r, z50, z51, z53, z54, z5a, z5f, z5j, z5k, z5t, z5u, z62, z66, z6a, z6h, z70, z71, z72, z7t, z8c, z8d, z8e, z8i, z8j, z8k, z8l, z8m, z8n, z8o, z8p, z8q, z8s, z8t, Nat.reduceEqDiff, Nat.reduceLeDiff, Nat.reduceAdd, Nat.reduceSub, ↓reduceIte, Nat.reduceDiv, Nat.reduceMod, keepR, Hp.cell, Hp.wr, tFieldAx24x0, tFieldAx33x0, tFieldAx47x7, tFieldAx47x8, tFieldAx47x10, tPartx22, tSizex4, tSizex22, gO3, gH3, ne_f nO3, ne_f0 nO3, lt_t nO3, lt_t0 nO3, ne_f nH3, ne_f0 nH3, lt_t nH3, lt_t0 nH3, r3]
        refine evalDraw_heap (Al h _) (fun k5 hk5 => ?_)
        have kk5 : Keeps k2 k5 := by rw [hk5]; exact (((kk3.set (Nat.le_refl _) _).set (by omega) _).set (Nat.le_refl _) _).set (by omega) _
        have nH5 : k2.size + 1 < k5.size := by rw [hk5]; simp only [Hp.size_setB]; omega
        have ro5 : k5.ro = h.ro := by rw [hk5]; simp only [Hp.ro_setB]; rw [ro3]; exact hT2.ro
        have T5 := hT2.keep kk5 (by rw [ro5, hT2.ro])
        have kq5 : Keeps q k5 := ⟨by have := T5.size; omega, fun d hd => (kk5.get d (by omega)).trans (((hk2.get d (by omega)).trans (hQ.get d hd)))⟩
        have gA5 := T5.gA
        have gH5 : k5.get (k2.size + 1) = some (.cells #[.int .i64 2, .int .i64 0, .int .i64 0, .int .u64 0, .int .u64 0, .int .u64 0, .slice none 0 0, .int .u64 0, .bool true, .int .u64 O.2.2.2.2.2.2.2.2.2.2.1.1.1, .int .u64 0, .int .u64 0, .int .u64 0, .slice none 0 0, .int .u32 0, .int .u64 0, .int .u32 0, .int .u64 0, .int .u32 0, .int .u64 0, .int .u32 0, .slice none 0 0, .int .i64 0] true) := by rw [hk5]; simp (maxDischargeDepth := 16) only [z33]
        have nA5 : q.size < k5.size := by have := T5.size; omega
        have zq : (q.size ≤ k2.size + 1) = True := eq_true (by omega)
        have zq2 : (q.size ≤ k2.size) = True := eq_true (by omega)
        have H5b : IntKind.u64.min ≤ O.2.2.2.2.2.2.2.2.2.2.1.1.1 ∧ O.2.2.2.2.2.2.2.2.2.2.1.1.1 ≤ IntKind.u64.max := yb10
        have c23 := call_rdk (P := Try.prog) (A := AM) (I := IS8) (f := 23) (spec := fun x => .int .u64 (f23 x.1 x.2.1 x.2.2.1)) rfl N (show AM.r (· < q.size) q [.int .u64 m, .int .u64 (f55 A), .agg #[.int .i64 2, .int .i64 0, .int .i64 0, .int .u64 0, .int .u64 0, .int .u64 0, .slice none 0 0, .int .u64 0, .bool true, .int .u64 O.2.2.2.2.2.2.2.2.2.2.1.1.1, .int .u64 0, .int .u64 0, .int .u64 0, .slice none 0 0, .int .u32 0, .int .u64 0, .int .u32 0, .int .u64 0, .int .u32 0, .int .u64 0, .int .u32 0, .slice none 0 0, .int .i64 0]] (m, f55 A, hvD true O.2.2.2.2.2.2.2.2.2.2.1.1.1, ()) from ⟨_, _, rfl, ⟨rfl, hm⟩, _, _, rfl, ⟨rfl, M55⟩, _, _, rfl, R47_mk (x := hvD true O.2.2.2.2.2.2.2.2.2.2.1.1.1) i2 i0 i0 u0 u0 u0 nilR u0 H5b u0 u0 u0 nilR w0 u0 w0 u0 w0 u0 w0 nilR i0, rfl⟩) (by omega)
        rw [evalDraw_modes _ _ [(0, 0, 1), (2, 0, 2), (5, 10, 6), (3, 0, 8), (4, 15, 31), (0, 31, 63)] (by kernel_rfl)]
        simp (maxDischargeDepth := 16) only [z08, z0d, z0e, z0h, z0k, z0p, z0q, z0s, z0t, z0v, z0w, z0x, z0z, z10, z11, z13, z1e, z1l, z1v, z24, z2x, z33, z3b, z3h, z3x, z3y, z3z, z41, z43, z44, z45, z46, z4b, z4e, z4f, z4g, z4h, z4i, z4j, z4k, z4l, z4p, z4q, z4r, z4s, z4u, z4v, z4z, z53, z5f, z5j, z5k, z5l, z5t, z5u, z5x, z62, z63, z67, z6d, z6g, z6t, z6v, z6x, z70, z71, z7x, z8c, z8d, z8e, z8i, z8j, z8k, z8l, z8m, z8n, z8o, z8p, z8q, z8s, z8t, Nat.reduceEqDiff, Nat.reduceAdd, Nat.reduceSub, ↓reduceIte, Nat.reduceDiv, Nat.reduceMod, keepR, Hp.row, hasBx23, hasBx33, tPartx36, tPartx47, gA5, gH5, ne_f nA5, ne_f0 nA5, lt_t nA5, lt_t0 nA5, ne_f nH5, ne_f0 nH5, lt_t nH5, lt_t0 nH5, c33, c23, kq5, zq, w3, va1 k5.size (by omega), va2 k5.size (by omega)]
        have kk6 : Keeps k5 ((k5.setB (k2.size + 1) none).setB (k2.size + 1) (some (.cells #[.int .i64 2, .int .i64 0, .int .i64 0, .int .u64 0, .int .u64 0, .int .u64 0, .slice none 0 0, .int .u64 0, .bool true, .int .u64 O.2.2.2.2.2.2.2.2.2.2.1.1.1, .int .u64 0, .int .u64 0, .int .u64 0, .slice none 0 0, .int .u32 0, .int .u64 0, .int .u32 0, .int .u64 0, .int .u32 0, .int .u64 0, .int .u32 0, .slice none 0 0, .int .i64 0] true))) := ⟨by simp only [Hp.size_setB]; omega, fun d hd => by
          by_cases hdd : d = k2.size + 1
          · subst hdd; rw [get_set_self, gH5]
          · rw [get_set_ne (by omega), get_set_ne (by omega)]⟩
        exact ih (w - 1) _ _ q1 ⟨i + 1, _, B, _, q2, q3, by rw [hstep, if_pos qst, f23_hv, if_pos rfl, hOb qst], f23_b hm M55 H5b, T5.keep kk6 (by simp only [Hp.ro_setB]), kq5.trans kk6, rfl, rfl, rfl, rfl, rfl, rfl, rfl⟩
      · have q3' := eq_false qst
        simp (maxDischargeDepth := 16) only [z04, z08, z09, z0a, z0c, z0d, z0e, z0p, z0q, z0s, z0t, z0u, z0v, z0w, z0x, z0z, z10, z11, z13, z16, z1a, z1b, z1e, z1f, z1g, z1l, z1v, z1w, z1x, z2b, z2c, z2m, z2o, z2t, z2w, z2x, z2y, z2z, z33, z34, z35, z38, z39, z3b, z3h, z3p, z3q, z3s, z3v, z3w, z3x, z3y, z3z, z41, z43, z44, z45, z46, z49, z4a, z4b, z4c, z4d, z4e, z4f, z4g, z4h, z4i, z4j, z4k, z4l, z4m, z4n, z4o, z4p, z4q, z4r, z4s, z4u, z4v, z4z, z50, z51, z53, z54, z5a, z5b, z5c, z5f, z72, z80, z81, z82, z83, Nat.reduceLeDiff, Nat.reduceAdd, Nat.reduceSub, ↓reduceIte, Hp.cell, Hp.row, Hp.wr, hasBx26, tBuildFx47x0, tBuildOkx47, tFieldAx47x0, tPartx3, tPartx36, tPartx47, tSizex47, tZerox47, oy1, oy2, oy3, k2ro, k2ro1, M1, q3', gB2, ne_f nB2, ne_f0 nB2, lt_t nB2, lt_t0 nB2]
        obtain ⟨ok1, ok2⟩ := okA qst
        obtain ⟨f1, f2⟩ := f29_is ok1
        have hSB : Small B := hok.small
        have h15B : f15 B = 0 := hok.b15
        rw [if_neg qst] at hstep
        have hE6 : f26e B O = 0 := by unfold f26e; rw [if_pos h15B, if_pos ok1]
        have hC6 : f26c B O = accD B O := by unfold f26c; rw [if_pos h15B, if_pos ok1]
        have hCl := acc_len' B O
        refine ex_ev (S := fun v k3 => ∃ es, v = .tuple #[.agg es.toArray, .int .i64 0] ∧ R72.r true (fun b => k2.size + 2 ≤ b ∧ b < k3.size) k3 es (accD B O) ∧ Keeps k2 k3 ∧ k3.ro = k2.ro ∧ k2.size + 2 ≤ k3.size ∧ k3.get k2.size = some (.cells #[.int .i64 O.1, .int .i64 O.2.1, .int .i64 O.2.2.1, .int .u64 O.2.2.2.1, .int .u64 O.2.2.2.2.1.1, .int .u64 O.2.2.2.2.1.2, y1, .int .u64 O.2.2.2.2.2.2.1, .bool O.2.2.2.2.2.2.2.1, .int .u64 O.2.2.2.2.2.2.2.2.1, .int .u64 O.2.2.2.2.2.2.2.2.2.1, .int .u64 O.2.2.2.2.2.2.2.2.2.2.1.1.1, .int .u64 O.2.2.2.2.2.2.2.2.2.2.1.1.2, y2, .int .u32 O.2.2.2.2.2.2.2.2.2.2.1.2.2.1.1, .int .u64 O.2.2.2.2.2.2.2.2.2.2.1.2.2.1.2, .int .u32 O.2.2.2.2.2.2.2.2.2.2.1.2.2.2.1.1, .int .u64 O.2.2.2.2.2.2.2.2.2.2.1.2.2.2.1.2, .int .u32 O.2.2.2.2.2.2.2.2.2.2.1.2.2.2.2.1, .int .u64 O.2.2.2.2.2.2.2.2.2.2.1.2.2.2.2.2, .int .u32 O.2.2.2.2.2.2.2.2.2.2.2.1, y3, .int .i64 O.2.2.2.2.2.2.2.2.2.2.2.2.2] true) ∧ k3.get (k2.size + 1) = some (.cells #[.int .i64 2, .int .i64 0, .int .i64 0, .int .u64 0, .int .u64 0, .int .u64 0, .slice none 0 0, .int .u64 0, .bool false, .int .u64 0, .int .u64 0, .int .u64 0, .int .u64 0, .slice none 0 0, .int .u32 0, .int .u64 0, .int .u32 0, .int .u64 0, .int .u32 0, .int .u64 0, .int .u32 0, .slice none 0 0, .int .i64 0] true)) (Al h _) (fun k0 hk0 => ?_) ?_
        · have kk0 : Keeps k2 k0 := by rw [hk0]; exact (by repeat (first | assumption | exact Keeps.refl _ | refine Keeps.push ?_ _ | refine Keeps.set ?_ (by first | omega | (simp only [Hp.size_push, Hp.size_setB]; omega)) _))
          have ro0 : k0.ro = k2.ro := by rw [hk0]; simp only [Hp.ro_setB, Hp.ro_push]
          have sz0 : k0.size = k2.size + 2 := by rw [hk0]; simp only [Hp.size_setB, Hp.size_push]
          have g5 : k0.get k2.size = some (.cells #[.int .i64 O.1, .int .i64 O.2.1, .int .i64 O.2.2.1, .int .u64 O.2.2.2.1, .int .u64 O.2.2.2.2.1.1, .int .u64 O.2.2.2.2.1.2, y1, .int .u64 O.2.2.2.2.2.2.1, .bool O.2.2.2.2.2.2.2.1, .int .u64 O.2.2.2.2.2.2.2.2.1, .int .u64 O.2.2.2.2.2.2.2.2.2.1, .int .u64 O.2.2.2.2.2.2.2.2.2.2.1.1.1, .int .u64 O.2.2.2.2.2.2.2.2.2.2.1.1.2, y2, .int .u32 O.2.2.2.2.2.2.2.2.2.2.1.2.2.1.1, .int .u64 O.2.2.2.2.2.2.2.2.2.2.1.2.2.1.2, .int .u32 O.2.2.2.2.2.2.2.2.2.2.1.2.2.2.1.1, .int .u64 O.2.2.2.2.2.2.2.2.2.2.1.2.2.2.1.2, .int .u32 O.2.2.2.2.2.2.2.2.2.2.1.2.2.2.2.1, .int .u64 O.2.2.2.2.2.2.2.2.2.2.1.2.2.2.2.2, .int .u32 O.2.2.2.2.2.2.2.2.2.2.2.1, y3, .int .i64 O.2.2.2.2.2.2.2.2.2.2.2.2.2] true) := by rw [hk0]; simp (maxDischargeDepth := 16) only [z33, z34, z35, z38, z39, z4a, z4b, ↓reduceIte]
          have g6 : k0.get (k2.size + 1) = some (.cells #[.int .i64 2, .int .i64 0, .int .i64 0, .int .u64 0, .int .u64 0, .int .u64 0, .slice none 0 0, .int .u64 0, .bool false, .int .u64 0, .int .u64 0, .int .u64 0, .int .u64 0, .slice none 0 0, .int .u32 0, .int .u64 0, .int .u32 0, .int .u64 0, .int .u32 0, .int .u64 0, .int .u32 0, .slice none 0 0, .int .i64 0] true) := by rw [hk0]; simp (maxDischargeDepth := 16) only [z33]
          refine (Al.ex (run26 (I := IS8) (N := N) (p := (· < k2.size)) rfl rfl rfl rfl rfl rfl rfl rfl rfl rfl (R36.mono hT2.rB (fun b hb => hb.1) id (kk0.fr fun b hb => hb.1)) (R47.mono hR0 (fun b hb => hb.2) (by simp) (kk0.fr fun b hb => hb.2)) (fun b hb => by omega) (by rw [ro0, hT2.ro]; omega) hSB (by omega) (fun e he => by have := hOu e he; omega) (by omega))).mono ?_
          rintro v k' ⟨hk', hr', es, rfl, hR⟩
          have := hk'.size
          rw [hE6]
          rw [hC6] at hR
          exact ⟨es, rfl, R72.mono hR (fun b hb => ⟨by have := hb.1; omega, hb.2⟩) id (Fr.refl _), kk0.trans hk', by omega, by omega, (hk'.get _ (by omega)).trans g5, (hk'.get _ (by omega)).trans g6⟩
        rintro _ k3 ⟨es, rfl, hC, kk3, ro3, s3, gO3, gH3⟩
        have hCb : ∀ b, b < k3.size ∧ b ≠ q.size ∧ b ≠ q.size + 1 ∧ b ≠ k2.size ∧ b ≠ k2.size + 1 → b < k3.size := fun b hb => hb.1
        have hCl9 : (accD B O).2.2.1.length ≤ 900 := by omega
        generalize hCC : accD B O = C at *
        have hC2 := R72.mono hC (p' := fun b => b < k3.size ∧ b ≠ q.size ∧ b ≠ q.size + 1 ∧ b ≠ k2.size ∧ b ≠ k2.size + 1) (o' := false) (fun b hb => by have := hb.1; have := hb.2; exact ⟨by omega, by omega, by omega, by omega, by omega⟩) (by simp) (Fr.refl _)
        have hB3 := R36.mono hT2.rB (p' := fun b => b < k3.size ∧ b ≠ q.size ∧ b ≠ q.size + 1 ∧ b ≠ k2.size ∧ b ≠ k2.size + 1) (fun b hb => by obtain ⟨z1, z2, z3⟩ := hb; exact ⟨by omega, z2, z3, by omega, by omega⟩) id (kk3.fr fun b hb => hb.1)
        obtain ⟨w, rfl, wb1, hw, wb2⟩ := R72_inv hC
        obtain ⟨aw, cw, rfl, -, -⟩ := slice_form hw
        have ow := (Rp.slice R85).rone hw _ (List.mem_singleton.2 rfl)
        have gB3 := (kk3.get _ nB2).trans gB2
        have nB3 : q.size + 1 < k3.size := by omega
        have r30 : (k3.ro ≤ k3.size) = True := eq_true (by rw [ro3, hT2.ro]; omega)
        simp (maxDischargeDepth := 16) only [z04, z08, z09, z0a, z0c, z0d, z0e, z0p, z0q, z0s, z0t, z0u, z0v, z0w, z0x, z0z, z10, z11, z13, z1a, z1e, z1f, z1g, z1l, z1v, z1w, z1x, z2c, z2o, z2t, z2x, z2y, z2z, z33, z34, z35, z3b, z3h, z3p, z3q, z3v, z3w, z3x, z3y, z3z, z41, z43, z44, z45, z46, z49, z4c, z4e, z4f, z4g, z4h, z4i, z4j, z4k, z4l, z4m, z4n, z4o, z4p, z4q, z4r, z4s, z4u, z4v, z4z, z53, z5a, z5c, z5f, z72, Nat.reduceAdd, Nat.reduceSub, ↓reduceIte, Hp.row, Hp.wr, hasBx32, tPartx36, tPartx72, tSizex72, tZerox72, ow, r30, gB3, ne_f nB3, ne_f0 nB3, lt_t nB3, lt_t0 nB3]
        refine ex_ev (S := fun v k4 => ∃ es', v = .tuple #[.agg es'.toArray, .bool true] ∧ R36.r false (fun b => (b < k3.size ∧ b ≠ q.size ∧ b ≠ q.size + 1 ∧ b ≠ k2.size ∧ b ≠ k2.size + 1) ∨ k3.size + 1 ≤ b ∧ b < k4.size) k4 es' (putD B C) ∧ Keeps k3 k4 ∧ k4.ro = k3.ro ∧ k3.size + 1 ≤ k4.size ∧ k4.get k3.size = some (.cells #[.bool C.1, .int .u64 C.2.1, .slice aw C.2.2.1.length cw, .int .u64 C.2.2.2] true)) (Al h _) (fun k0 hk0 => ?_) ?_
        · have sz0 : k0.size = k3.size + 1 := by rw [hk0]; simp only [Hp.size_setB, Hp.size_push]
          have ro0 : k0.ro = k3.ro := by rw [hk0]; simp only [Hp.ro_setB, Hp.ro_push]
          have kk0 : Keeps k3 k0 := by rw [hk0]; exact (by repeat (first | assumption | exact Keeps.refl _ | refine Keeps.push ?_ _ | refine Keeps.set ?_ (by first | omega | (simp only [Hp.size_push, Hp.size_setB]; omega)) _))
          have g7 : k0.get k3.size = some (.cells #[.bool C.1, .int .u64 C.2.1, .slice aw C.2.2.1.length cw, .int .u64 C.2.2.2] true) := by rw [hk0, get_set_self]
          refine (Al.ex (run32p (I := IS8) (N := N) (p := fun b => b < k3.size ∧ b ≠ q.size ∧ b ≠ q.size + 1 ∧ b ≠ k2.size ∧ b ≠ k2.size + 1) rfl rfl rfl rfl (R36.mono hB3 (fun _ h => h) id (kk0.fr hCb)) (R72.mono hC2 (fun _ h => h) id (kk0.fr hCb)) (fun b hb => by have := hb.1; omega) (by rw [ro0, ro3, hT2.ro]; omega) (right_62 h15B) (by have := hSB.ents; omega) hCl9 (by omega))).mono ?_
          rintro v k' ⟨hk', hr', es', rfl, hR⟩
          have := hk'.size
          rw [ok2]
          exact ⟨es', rfl, R36.mono hR (fun b hb => by rw [sz0] at hb; exact hb) id (Fr.refl _), kk0.trans hk', by omega, by omega, (hk'.get _ (by omega)).trans g7⟩
        rintro _ k4 ⟨es', rfl, hW, kk4, ro4, s4, g7⟩
        generalize hWW : putD B C = W at *
        have hWr := hW
        obtain ⟨n1, n2, rfl, nb1, nb2, nb3, hn1, nb4, nb5, nb6, nb7, nb8, nb9, hn2⟩ := R36_inv hW
        have on1 : oneC n1 = true := R25.rone hn1 n1 (by simp)
        have on2 : oneC n2 = true := R34.rone hn2 n2 (by simp)
        obtain ⟨on, cn, rfl, -, -⟩ := slice_form hn2
        have gB4 := (kk4.get _ nB3).trans gB3
        have gH4 := (kk4.get _ (show k2.size + 1 < k3.size by omega)).trans gH3
        have nB4 : q.size + 1 < k4.size := by omega
        have nH4 : k2.size + 1 < k4.size := by omega
        have n74 : k3.size < k4.size := by omega
        have r40 : (k4.ro ≤ k4.size) = True := eq_true (by rw [ro4, ro3, hT2.ro]; omega)
        have r4q : (k4.ro ≤ q.size + 1) = True := eq_true (by rw [ro4, ro3, hT2.ro]; omega)
        have r4h : (k4.ro ≤ k2.size + 1) = True := eq_true (by rw [ro4, ro3, hT2.ro]; omega)
        have vn1 := fun s0 (hh : k4.size ≤ s0) kept bits => vb_old (s0 := s0) (kept := kept) (bits := bits) (vin_mono (fun b hb => by rcases hb with hb | hb; have := hb.1; omega; omega) (R25.rvin hn1 n1 (by simp)))
        have vn2 := fun s0 (hh : k4.size ≤ s0) kept bits => vb_old (s0 := s0) (kept := kept) (bits := bits) (vin_mono (fun b hb => by rcases hb with hb | hb; have := hb.1; omega; omega) (R34.rvin hn2 _ (List.mem_singleton.2 rfl)))
        have d1 : (q.size + 1 = k3.size) = False := eq_false (by omega)
        have d2 : (k2.size + 1 = k3.size) = False := eq_false (by omega)
        have d3 : (k2.size + 1 = q.size + 1) = False := eq_false (by omega)
        simp (maxDischargeDepth := 16) only [z04, z08, z09, z0a, z0c, z0d, z0e, z0p, z0q, z0s, z0t, z0u, z0v, z0z, z10, z11, z14, z1a, z1f, z1g, z1w, z1x, z2h, z2o, z2t, z2y, z2z, z34, z3b, z3p, z3v, z3w, z44, z45, z46, z49, z4c, z4e, z4f, z4g, z4h, z4i, z4m, z4n, z4o, z4p, z4q, z4r, z4z, z53, z5c, z5f, z72, z7t, Nat.reduceAdd, ↓reduceIte, Hp.wr, tSizex36, tZerox36, on1, on2, r40]
        rw [evalDraw_modes _ _ [(2, 0, 1), (0, 0, 2), (3, 2, 6), (0, 0, 8), (3, 8, 24), (5, 851981, 33), (0, 39, 103), (5, 13, 231), (0, 255, 511), (4, 511, 1023)] (by kernel_rfl)]
        simp (maxDischargeDepth := 16) only [z0d, z0e, z0t, z0u, z0v, z0z, z16, z1e, z1f, z1v, z1w, z1x, z2m, z2n, z2o, z2w, z2x, z2y, z33, z34, z35, z3b, z3p, z3q, z3v, z3w, z3x, z3y, z3z, z41, z43, z44, z45, z46, z49, z4a, z4b, z4c, z4d, z4e, z4f, z4g, z4h, z4i, z4m, z4n, z4o, z4p, z4q, z4r, z4z, z50, z51, z53, z54, z5a, z5f, z5j, z5k, z5l, z5t, z5u, z5x, z62, z63, z66, z6a, z6d, z6g, z6h, z6t, z6v, z6x, z70, z71, z72, z7t, z8c, z8d, z8e, z8i, z8j, z8k, z8l, z8m, z8n, z8o, z8p, z8q, z8r, z8s, z8t, Nat.reduceEqDiff, Nat.reduceLeDiff, Nat.reduceAdd, Nat.reduceSub, ↓reduceIte, Nat.reduceDiv, Nat.reduceMod, keepR, Hp.cell, Hp.row, Hp.wr, tFieldAx47x7, tFieldAx47x8, tFieldAx72x0, tFieldAx72x3, tPartx4, tPartx22, tPartx36, tSizex4, tSizex22, tSizex36, on1, on2, r4q, r4h, d1, d2, d3, gB4, gH4, g7, ne_f nB4, ne_f0 nB4, lt_t nB4, lt_t0 nB4, ne_f nH4, ne_f0 nH4, lt_t nH4, lt_t0 nH4, ne_f n74, ne_f0 n74, lt_t n74, lt_t0 n74, vn1 (k4.size + 1) (by omega), vn2 (k4.size + 1) (by omega)]
        refine evalDraw_heap (Al h _) (fun k5 hk5 => ?_)
        have nH5 : k2.size + 1 < k5.size := by rw [hk5]; simp only [Hp.size_setB, Hp.size_push]; omega
        have sz5 : k5.size = k4.size + 1 := by rw [hk5]; simp only [Hp.size_setB, Hp.size_push]
        have hget : ∀ b, b < k4.size → b ≠ q.size + 1 → b ≠ k2.size + 1 → k5.get b = k4.get b := fun b z1 z2 z3 => by
          rw [hk5]
          by_cases hb3 : b = k3.size
          · subst hb3
            rw [get_set_ne (by omega), get_set_self, g7]
          · rw [get_set_ne (by omega), get_set_ne (by omega), get_set_ne (by omega), get_set_ne (by omega), get_set_ne (by omega), get_set_ne (by omega), get_set_ne (by omega), get_set_ne (by omega), get_set_ne (by omega), get_set_ne (by omega), get_push_ne (by omega)]
        have k24 : Keeps k2 k4 := kk3.trans kk4
        have nq : ∀ d, d < q.size → k5.get d = q.get d := fun d hd => by
          rw [hget d (by omega) (by omega) (by omega), k24.get d (by omega), hk2.get d (by omega), hQ.get d hd]
        have ro5 : k5.ro = h.ro := by rw [hk5]; simp only [Hp.ro_setB, Hp.ro_push]; rw [ro4, ro3]; exact hT2.ro
        have T5 : Two h q k5 [.int .u64 A.1, .int .u64 A.2.1.1.1, .int .u64 A.2.1.1.2, a1, .int .u32 A.2.1.2.2.1.1, .int .u64 A.2.1.2.2.1.2, .int .u32 A.2.1.2.2.2.1.1, .int .u64 A.2.1.2.2.2.1.2, .int .u32 A.2.1.2.2.2.2.1, .int .u64 A.2.1.2.2.2.2.2, .slice oa A.2.2.length ca] [.int .u64 W.1, .int .u64 W.2.1.1.1, .int .u64 W.2.1.1.2, n1, .int .u32 W.2.1.2.2.1.1, .int .u64 W.2.1.2.2.1.2, .int .u32 W.2.1.2.2.2.1.1, .int .u64 W.2.1.2.2.2.1.2, .int .u32 W.2.1.2.2.2.2.1, .int .u64 W.2.1.2.2.2.2.2, .slice on W.2.2.length cn] A W := ⟨⟨by omega, fun d hd => by rw [nq d (by omega), ← hQ.get d (by omega)]; exact h2.keeps.get d hd⟩, ro5, h2.hq, by omega, by rw [hget _ (by omega) (by omega) (by omega), k24.get _ (by omega)]; exact hT2.gA, by
            rw [hk5, get_set_ne (by omega), get_set_ne (by omega), get_set_ne (by omega), get_set_ne (by omega), get_set_ne (by omega), get_set_ne (by omega), get_set_self],
          R36.mono hT2.rA (fun b hb => ⟨by have := hb.1; omega, hb.2⟩) id (Fr.of fun b hb => by obtain ⟨z1, z2, z3⟩ := hb; rw [hget b (by omega) z3 (by omega), k24.get b z1]),
          R36.mono hWr (fun b hb => by
            rcases hb with hb | hb
            · obtain ⟨z1, z2, z3, z4, z5⟩ := hb; exact ⟨by omega, z2, z3⟩
            · exact ⟨by omega, by omega, by omega⟩) id (Fr.of fun b hb => by
            rcases hb with hb | hb
            · obtain ⟨z1, z2, z3, z4, z5⟩ := hb; exact hget b (by omega) z3 z5
            · exact hget b (by omega) (by omega) (by omega))⟩
        have kq5 : Keeps q k5 := ⟨by have := T5.size; omega, fun d hd => nq d hd⟩
        have gA5 := T5.gA
        have gH5 : k5.get (k2.size + 1) = some (.cells #[.int .i64 2, .int .i64 0, .int .i64 0, .int .u64 0, .int .u64 0, .int .u64 0, .slice none 0 0, .int .u64 0, .bool C.1, .int .u64 C.2.2.2, .int .u64 0, .int .u64 0, .int .u64 0, .slice none 0 0, .int .u32 0, .int .u64 0, .int .u32 0, .int .u64 0, .int .u32 0, .int .u64 0, .int .u32 0, .slice none 0 0, .int .i64 0] true) := by rw [hk5]; exact get_set_self
        have nA5 : q.size < k5.size := by have := T5.size; omega
        have zq : (q.size ≤ k2.size + 1) = True := eq_true (by omega)
        have zq2 : (q.size ≤ k2.size) = True := eq_true (by omega)
        have H5b : IntKind.u64.min ≤ C.2.2.2 ∧ C.2.2.2 ≤ IntKind.u64.max := wb2
        have c23 := call_rdk (P := Try.prog) (A := AM) (I := IS8) (f := 23) (spec := fun x => .int .u64 (f23 x.1 x.2.1 x.2.2.1)) rfl N (show AM.r (· < q.size) q [.int .u64 m, .int .u64 (f55 A), .agg #[.int .i64 2, .int .i64 0, .int .i64 0, .int .u64 0, .int .u64 0, .int .u64 0, .slice none 0 0, .int .u64 0, .bool C.1, .int .u64 C.2.2.2, .int .u64 0, .int .u64 0, .int .u64 0, .slice none 0 0, .int .u32 0, .int .u64 0, .int .u32 0, .int .u64 0, .int .u32 0, .int .u64 0, .int .u32 0, .slice none 0 0, .int .i64 0]] (m, f55 A, hvD C.1 C.2.2.2, ()) from ⟨_, _, rfl, ⟨rfl, hm⟩, _, _, rfl, ⟨rfl, M55⟩, _, _, rfl, R47_mk (x := hvD C.1 C.2.2.2) i2 i0 i0 u0 u0 u0 nilR u0 H5b u0 u0 u0 nilR w0 u0 w0 u0 w0 u0 w0 nilR i0, rfl⟩) (by omega)
        rw [evalDraw_modes _ _ [(0, 0, 1), (2, 0, 2), (5, 10, 6), (3, 0, 8), (4, 15, 31), (0, 31, 63)] (by kernel_rfl)]
        simp (maxDischargeDepth := 16) only [z08, z0d, z0e, z0h, z0k, z0p, z0q, z0s, z0t, z0v, z0w, z0x, z0z, z10, z11, z13, z1e, z1l, z1v, z24, z2x, z33, z3b, z3h, z3x, z3y, z3z, z41, z43, z44, z45, z46, z4b, z4e, z4f, z4g, z4h, z4i, z4j, z4k, z4l, z4p, z4q, z4r, z4s, z4u, z4v, z4z, z53, z5f, z5j, z5k, z5l, z5t, z5u, z5x, z62, z63, z67, z6d, z6g, z6t, z6v, z6x, z70, z71, z7x, z8c, z8d, z8e, z8i, z8j, z8k, z8l, z8m, z8n, z8o, z8p, z8q, z8s, z8t, Nat.reduceEqDiff, Nat.reduceAdd, Nat.reduceSub, ↓reduceIte, Nat.reduceDiv, Nat.reduceMod, keepR, Hp.row, hasBx23, hasBx33, tPartx36, tPartx47, gA5, gH5, ne_f nA5, ne_f0 nA5, lt_t nA5, lt_t0 nA5, ne_f nH5, ne_f0 nH5, lt_t nH5, lt_t0 nH5, c33, c23, kq5, zq, w3, va1 k5.size (by omega), va2 k5.size (by omega)]
        have kk6 : Keeps k5 ((k5.setB (k2.size + 1) none).setB (k2.size + 1) (some (.cells #[.int .i64 2, .int .i64 0, .int .i64 0, .int .u64 0, .int .u64 0, .int .u64 0, .slice none 0 0, .int .u64 0, .bool C.1, .int .u64 C.2.2.2, .int .u64 0, .int .u64 0, .int .u64 0, .slice none 0 0, .int .u32 0, .int .u64 0, .int .u32 0, .int .u64 0, .int .u32 0, .int .u64 0, .int .u32 0, .slice none 0 0, .int .i64 0] true))) := ⟨by simp only [Hp.size_setB]; omega, fun d hd => by
          by_cases hdd : d = k2.size + 1
          · subst hdd; rw [get_set_self, gH5]
          · rw [get_set_ne (by omega), get_set_ne (by omega)]⟩
        exact ih (w - 1) _ _ q1 ⟨i + 1, _, W, _, q2, q3, by rw [hstep, f23_hv], f23_b hm M55 H5b, T5.keep kk6 (by simp only [Hp.ro_setB]), kq5.trans kk6, rfl, rfl, rfl, rfl, rfl, rfl, rfl⟩
    · have hlt' := nlt_cast hlt
      obtain rfl : i = T := by omega
      rw [← hT, hst] at M5
      have Ea := M5.a55
      have Eb := M5.b55
      have Em : m = (a : Int) := M5.m
      have E20 := M5.al
      have Ena := M5.nal
      have Enb := M5.nbl
      have EA : A.2.1.1.1 = (na : Int) := M5.ab
      have EB : B.2.1.1.1 = (nb : Int) := M5.bb
      have Es := M5.same
      dsimp only at Eb Es
      obtain ⟨HH, hHH⟩ : ∃ HH, HH = (((k'.setB q.size none).setB q.size (some (.cells #[.int .u64 A.1, .int .u64 A.2.1.1.1, .int .u64 A.2.1.1.2, a1, .int .u32 A.2.1.2.2.1.1, .int .u64 A.2.1.2.2.1.2, .int .u32 A.2.1.2.2.2.1.1, .int .u64 A.2.1.2.2.2.1.2, .int .u32 A.2.1.2.2.2.2.1, .int .u64 A.2.1.2.2.2.2.2, .slice oa A.2.2.length ca] true))).setB q.size none) := ⟨_, rfl⟩
      have c33B := call_rdk (P := Try.prog) (A := A36) (I := IS8) (f := 33) (spec := fun x => .int .u64 (f55 x.1)) rfl N (show A36.r (· < HH.size) HH [_] (B, ()) from ⟨_, _, rfl, R36.mono h2.rB (fun b hb => by rw [hHH]; simp only [Hp.size_setB]; exact hb.1) id (Fr.of fun b hb => by rw [hHH, get_set_ne (by have := hb.2.1; omega), get_set_ne (by have := hb.2.1; omega), get_set_ne (by have := hb.2.1; omega)]), rfl⟩) (by omega) HH (Keeps.refl _)
      rw [hHH] at c33B
      have ve1 := fun kept bits => vb_old (s0 := k'.size) (kept := kept) (bits := bits) (vin_mono (fun b hb => hb.1) (R25.rvin hB1 e1 (by simp)))
      have ve2 := fun kept bits => vb_old (s0 := k'.size) (kept := kept) (bits := bits) (vin_mono (fun b hb => hb.1) (R34.rvin hB2 _ (List.mem_singleton.2 rfl)))
      have va1' := va1 k'.size (by omega)
      have va2' := va2 k'.size (by omega)
      have cm1 : (m = (a : Int)) = True := eq_true Em
      have cm2 : (f55 B < (a : Int)) = False := eq_false (by omega)
      have kk : Keeps k' k' := Keeps.refl _
      simp (maxDischargeDepth := 16) only [z06, z08, z09, z0a, z0c, z0d, z0e, z0g, z0j, z0m, z0p, z0q, z0s, z0t, z0v, z0z, z13, z2d, z3b, z4e, z4f, z4g, z4h, z4i, z5b, z7t, ↓reduceIte, hlt']
      rw [evalDraw_modes _ _ [(0, 0, 1), (1, 0, 2), (4, 2, 6), (0, 7, 15), (0, 15, 31), (5, 6, 63), (5, 6, 127), (3, 31, 159), (4, 255, 511), (0, 511, 1023), (0, 1023, 2047)] (by kernel_rfl)]
      simp (maxDischargeDepth := 16) only [z04, z08, z09, z0a, z0c, z0d, z0e, z0p, z0q, z0s, z0t, z0v, z0w, z0x, z0z, z10, z11, z12, z13, z16, z1e, z1l, z1t, z1v, z1y, z2c, z2d, z2j, z2w, z2x, z33, z35, z37, z39, z3b, z3h, z3x, z3y, z3z, z41, z43, z44, z45, z46, z4b, z4e, z4f, z4g, z4h, z4i, z4j, z4k, z4l, z4m, z4n, z4o, z4p, z4q, z4r, z4s, z4u, z4v, z4z, z50, z51, z52, z53, z54, z59, z5a, z5b, z5c, z5e, z5f, z5j, z5k, z5n, z5t, z5u, z5w, z5y, z62, z63, z6d, z6g, z6t, z6v, z6x, z70, z71, z7x, z8d, z8f, z8g, z8h, z8i, z8j, z8k, z8l, z8m, z8n, z8o, z8p, z8q, z8s, z8t, evalC_block, Nat.reduceEqDiff, Nat.reduceAdd, Nat.reduceSub, ↓reduceIte, Nat.reduceDiv, Nat.reduceMod, yielded, keepR, Hp.cell, Hp.row, hasBx33, tFieldAx24x0, tFieldAx33x0, tFieldAx36x1, tPartx22, tPartx36, gA, gB, ne_f nA, ne_f0 nA, lt_t nA, lt_t0 nA, ne_f nB, ne_f0 nB, lt_t nB, lt_t0 nB, ve1, ve2, va1', va2', c33, c33B, hQ, Ea, cm1, cm2]
      have hnab : (max na nb : Nat) ≤ a := by omega
      have eMax : max A.2.1.1.1 B.2.1.1.1 = ((max na nb : Nat) : Int) := by omega
      have kLoop : ∀ k9, Keeps k' k9 → q.size + 2 ≤ k9.size := fun k9 hk => by have := hk.size; omega
      refine loop_rule (Al h _) (fun w2 y2 k2 => ∃ z : Nat, w2 = a - z ∧ max na nb ≤ z ∧ z ≤ a ∧ Keeps k' k2 ∧ k2.ro = k'.ro ∧ y2.tmps.size = 138 ∧ y2.defers = [] ∧ y2.tmps.getD 5 undef = .pointer (some ⟨q.size, 0, none⟩) ∧ y2.tmps.getD 6 undef = .pointer (some ⟨q.size + 1, 0, none⟩) ∧ y2.tmps.getD 16 undef = .int .u64 (z : Int)) ?_ _ (a - max na nb) _ _ ?_ ?_
      · intro w2 n2 y2 k2 hI2 ih2
        obtain ⟨z, hw2, hz1, hz2, hk2, hr2, hxs, hxd, l5, l6, l16⟩ := hI2
        obtain ⟨g, rfl⟩ : ∃ g : Nat → Value, y2 = { tmps := #[g 0, g 1, g 2, g 3, g 4, .pointer (some ⟨q.size, 0, none⟩), .pointer (some ⟨q.size + 1, 0, none⟩), g 7, g 8, g 9, g 10, g 11, g 12, g 13, g 14, g 15, .int .u64 (z : Int), g 17, g 18, g 19, g 20, g 21, g 22, g 23, g 24, g 25, g 26, g 27, g 28, g 29, g 30, g 31, g 32, g 33, g 34, g 35, g 36, g 37, g 38, g 39, g 40, g 41, g 42, g 43, g 44, g 45, g 46, g 47, g 48, g 49, g 50, g 51, g 52, g 53, g 54, g 55, g 56, g 57, g 58, g 59, g 60, g 61, g 62, g 63, g 64, g 65, g 66, g 67, g 68, g 69, g 70, g 71, g 72, g 73, g 74, g 75, g 76, g 77, g 78, g 79, g 80, g 81, g 82, g 83, g 84, g 85, g 86, g 87, g 88, g 89, g 90, g 91, g 92, g 93, g 94, g 95, g 96, g 97, g 98, g 99, g 100, g 101, g 102, g 103, g 104, g 105, g 106, g 107, g 108, g 109, g 110, g 111, g 112, g 113, g 114, g 115, g 116, g 117, g 118, g 119, g 120, g 121, g 122, g 123, g 124, g 125, g 126, g 127, g 128, g 129, g 130, g 131, g 132, g 133, g 134, g 135, g 136, g 137], defers := [] } := ⟨fun k => y2.tmps.getD k undef, (act_eta hxs hxd).trans (by simp only [unrollL, Nat.reduceAdd, Nat.zero_add, l5, l6, l16])⟩; clear hxs hxd l5 l6 l16
        have gA2 := (hk2.get _ nA).trans gA
        have gB2 := (hk2.get _ nB).trans gB
        have hs9 := hk2.size
        have nA2 : q.size < k2.size := by omega
        have nB2 : q.size + 1 < k2.size := by omega
        have kq2 : Keeps q k2 := hQ.trans hk2
        have vx1 := fun kept bits => vb_old (s0 := k2.size) (kept := kept) (bits := bits) (vin_mono (fun b hb => by have := hb.1; omega) (R25.rvin hB1 e1 (by simp)))
        have vx2 := fun kept bits => vb_old (s0 := k2.size) (kept := kept) (bits := bits) (vin_mono (fun b hb => by have := hb.1; omega) (R34.rvin hB2 _ (List.mem_singleton.2 rfl)))
        have vy1 := va1 k2.size (by omega)
        have vy2 := va2 k2.size (by omega)
        by_cases hzl : z < a
        · have hzl' : ((z : Int) < (a : Int)) = True := eq_true (by omega)
          obtain ⟨e, hea, heb⟩ := Es z (by omega) (by omega) hzl
          obtain ⟨bn, offn, _, cellsn, own', partn, ee, hbn, hgn, -, hpn, hlen', hexn, -⟩ := elem_at (s := 4) hA2 hea rfl (by decide)
          cases ee
          obtain ⟨bm, offm, _, cellsm, owm, partm, ee, hbm, hgm, -, hpm, hlem, hexm, -⟩ := elem_at (s := 4) hB2 heb rfl (by decide)
          cases ee
          have hpn0 := hpn
          have hpm0 := hpm
          obtain ⟨en, rfl, -, -, -, hen⟩ := R85_inv hpn
          obtain ⟨em, rfl, -, -, -, hem⟩ := R85_inv hpm
          have oen : oneC en = true := R43.rone hen en (by simp)
          have oem : oneC em = true := R43.rone hem em (by simp)
          have hgn' := (kq2.get bn hbn).trans hgn
          have hgm' := (hk2.get bm hbm.1).trans hgm
          have hbnk : bn < k2.size := by omega
          have hbmk : bm < k2.size := by have := hbm.1; omega
          have wa : IntKind.u64.wrap ((z : Int) - A.2.1.1.1) = ((z - na : Nat) : Int) := by rw [u64_in (by omega) (by omega)]; omega
          have wb : IntKind.u64.wrap ((z : Int) - B.2.1.1.1) = ((z - nb : Nat) : Int) := by rw [u64_in (by omega) (by omega)]; omega
          have wz : IntKind.u64.wrap ((z : Int) + 1) = ((z + 1 : Nat) : Int) := by rw [u64_in (by omega) (by omega)]; omega
          have pa : (0 ≤ ((z - na : Nat) : Int)) = True := eq_true (by omega)
          have pb : (0 ≤ ((z - nb : Nat) : Int)) = True := eq_true (by omega)
          have qa := lt_cast (List.getElem?_eq_some_iff.1 hea).1
          have qb := lt_cast (List.getElem?_eq_some_iff.1 heb).1
          have ven := fun kept bits => vb_old (s0 := k2.size) (kept := kept) (bits := bits) (vin_mono (fun b hb => by omega) (R43.rvin hen en (by simp)))
          have vem := fun kept bits => vb_old (s0 := k2.size) (kept := kept) (bits := bits) (vin_mono (fun b hb => by have := hb.1; omega) (R43.rvin hem em (by simp)))
          have c34 := call_rdk (P := Try.prog) (A := A85) (I := IS8) (f := 34) (spec := fun x => .bool (decide (x.1 = x.2.1))) rfl N (show A85.r (· < k2.size) k2 [_, _] (e, e, ()) from ⟨_, _, rfl, R85.mono hpn0 (fun b hb => by omega) id (kq2.fr fun _ h => h), _, _, rfl, R85.mono hpm0 (fun b hb => by have := hb.1; omega) id (hk2.fr fun b hb => hb.1), rfl⟩) (by omega)
          simp (maxDischargeDepth := 16) only [z04, z08, z09, z0a, z0b, z0d, z0e, z0p, z0q, z0s, z0t, z0v, z0x, z0z, z10, z13, z1e, z1l, z1v, z2d, z2x, z3b, z3h, z3x, z3y, z3z, z41, z43, z46, z4e, z4f, z4g, z4h, z4i, z4j, z4k, z4l, z4p, z4q, z4r, z4s, z4u, z4v, z4z, z53, z5a, z7t, evalC_block, Nat.reduceAdd, Nat.reduceSub, ↓reduceIte, Hp.row, hasBx33, tPartx36, gA2, ne_f nA2, ne_f0 nA2, lt_t nA2, lt_t0 nA2, c33, kq2, Ea, hzl']
          rw [evalDraw_modes _ _ [(0, 0, 1), (2, 1, 3), (0, 0, 4), (0, 0, 8), (0, 8, 24), (0, 24, 56), (2, 56, 120), (0, 124, 252), (0, 255, 511), (2, 511, 1023), (0, 0, 1024), (2, 1024, 3072), (0, 0, 4096), (0, 0, 8192), (0, 8192, 24576), (0, 24576, 57344), (2, 57344, 122880), (0, 126976, 258048), (0, 261120, 523264), (2, 523264, 1047552), (4, 1048575, 2097151), (0, 2097151, 4194303)] (by kernel_rfl)]
          simp (maxDischargeDepth := 16) only [z04, z08, z0a, z0c, z0d, z0e, z0h, z0k, z0p, z0q, z0s, z0t, z0v, z0w, z0x, z0z, z10, z11, z13, z14, z16, z18, z1e, z1l, z1v, z1z, z24, z25, z2h, z2u, z2w, z2x, z3a, z3b, z3h, z44, z45, z46, z4e, z4f, z4g, z4h, z4i, z4j, z4k, z4l, z4m, z4n, z4o, z4p, z4q, z4r, z4s, z4u, z4v, z4z, z50, z51, z53, z54, z5a, z5c, z5f, z5j, z5k, z5l, z5t, z5u, z5x, z62, z63, z6a, z6d, z6g, z6h, z6j, z6p, z6t, z6v, z6x, z70, z71, z7v, z8d, Nat.reduceAdd, ↓reduceIte, keepR, Hp.cell, Hp.row, hasBx34, tElemx34, tFieldAx24x0, tFieldAx33x0, tFieldAx36x1, tFieldAx36x2, tPartx22, tPartx34, tPartx85, gA2, gB2, ne_f nA2, ne_f0 nA2, lt_t nA2, lt_t0 nA2, ne_f nB2, ne_f0 nB2, lt_t nB2, lt_t0 nB2, wa, wb, pa, pb, qa, qb, Int.toNat_natCast, hgn', hgm', ne_f hbnk, ne_f0 hbnk, lt_t hbnk, lt_t0 hbnk, ne_f hbmk, ne_f0 hbmk, lt_t hbmk, lt_t0 hbmk, hlen', hexn, hlem, hexm, vx2, vy2, ven, vem, c34, wz]
          exact ih2 (w2 - 1) _ _ (by omega) ⟨z + 1, by omega, by omega, by omega, hk2, hr2, rfl, rfl, rfl, rfl, rfl⟩
        · have hzl' : ((z : Int) < (a : Int)) = False := eq_false (by omega)
          simp (maxDischargeDepth := 16) only [z05, z06, z08, z09, z0a, z0c, z0d, z0e, z0g, z0j, z0m, z0o, z0p, z0q, z0s, z0t, z0v, z0w, z0x, z0z, z10, z11, z13, z1e, z1l, z1v, z2d, z2x, z3b, z3c, z3f, z3h, z3x, z3y, z3z, z41, z43, z46, z4e, z4f, z4g, z4h, z4i, z4j, z4k, z4l, z4p, z4q, z4r, z4s, z4u, z4v, z4z, z53, z5b, Nat.reduceAdd, Nat.reduceSub, ↓reduceIte, Hp.row, hasBx33, tPartx36, gA2, ne_f nA2, ne_f0 nA2, lt_t nA2, lt_t0 nA2, c33, kq2, Ea, hzl']
          exact Al.done (h2.keeps.trans hk2) (by rw [hr2]; exact h2.ro) rfl
      · omega
      · have kz : Keeps k' ((((k'.setB q.size none).setB q.size (some (.cells #[.int .u64 A.1, .int .u64 A.2.1.1.1, .int .u64 A.2.1.1.2, a1, .int .u32 A.2.1.2.2.1.1, .int .u64 A.2.1.2.2.1.2, .int .u32 A.2.1.2.2.2.1.1, .int .u64 A.2.1.2.2.2.1.2, .int .u32 A.2.1.2.2.2.2.1, .int .u64 A.2.1.2.2.2.2.2, .slice oa A.2.2.length ca] true))).setB q.size none).setB q.size (some (.cells #[.int .u64 A.1, .int .u64 A.2.1.1.1, .int .u64 A.2.1.1.2, a1, .int .u32 A.2.1.2.2.1.1, .int .u64 A.2.1.2.2.1.2, .int .u32 A.2.1.2.2.2.1.1, .int .u64 A.2.1.2.2.2.1.2, .int .u32 A.2.1.2.2.2.2.1, .int .u64 A.2.1.2.2.2.2.2, .slice oa A.2.2.length ca] true))) := ⟨by simp only [Hp.size_setB]; omega, fun d hd => by
          by_cases hdd : d = q.size
          · subst hdd; rw [get_set_self, gA]
          · rw [get_set_ne (by omega), get_set_ne (by omega), get_set_ne (by omega), get_set_ne (by omega)]⟩
        rw [eMax]
        exact ⟨max na nb, by omega, by omega, by omega, kz, by simp only [Hp.ro_setB], rfl, rfl, rfl, rfl, rfl⟩
  · omega
  · exact ⟨0, m0, B0, _, by omega, by omega, rfl, hm0, ⟨hq0.trans (by repeat (first | assumption | exact Keeps.refl _ | refine Keeps.push ?_ _ | refine Keeps.set ?_ (by first | omega | (simp only [Hp.size_push, Hp.size_setB]; omega)) _)), by simp only [Hp.ro_setB, Hp.ro_push]; omega, by omega, by simp only [Hp.size_setB, Hp.size_push]; omega, by simp (maxDischargeDepth := 16) only [z33, z35, z38, z39, ↓reduceIte], by simp (maxDischargeDepth := 16) only [z33], R36.mono hA (fun b hb => ⟨by simp only [Hp.size_setB, Hp.size_push]; omega, by omega, by omega⟩) id (Keeps.fr (h := q) (by repeat (first | assumption | exact Keeps.refl _ | refine Keeps.push ?_ _ | refine Keeps.set ?_ (by first | omega | (simp only [Hp.size_push, Hp.size_setB]; omega)) _)) fun b hb => hb), R36.mono hB (fun b hb => ⟨by simp only [Hp.size_setB, Hp.size_push]; omega, by omega, by omega⟩) id (Keeps.fr (h := q) (by repeat (first | assumption | exact Keeps.refl _ | refine Keeps.push ?_ _ | refine Keeps.set ?_ (by first | omega | (simp only [Hp.size_push, Hp.size_setB]; omega)) _)) fun b hb => hb)⟩, (by repeat (first | assumption | exact Keeps.refl _ | refine Keeps.push ?_ _ | refine Keeps.set ?_ (by first | omega | (simp only [Hp.size_push, Hp.size_setB]; omega)) _)), rfl, rfl, rfl, rfl, rfl, rfl, rfl⟩
end Go.Abs.B1
