/- Ships: what an offer makes of a view. -/
import Derived.Test.YtnlhfcipapbfmaaSq0
namespace Go.Abs.B1
open Go.Proofs
set_option maxRecDepth 10000
set_option maxHeartbeats 4000000
set_option linter.all false
theorem run66 {I : Intr} (hI : I 66 = none) {N : Nat} {k : Hp} {cs ds : List Value} {x : T36} {y : T47} {p : Nat → Prop} (r : R36.r false p k cs x) (s : R47.r false p k ds y) :
    evalV Try.prog I (N + 1) (.fn 66) #[.agg cs.toArray, .agg ds.toArray] k = some (.func (.func 94) #[] #[.pointer (some ⟨k.size + 1, 0, none⟩), .pointer (some ⟨k.size, 0, none⟩)], (k.push (some (.cells cs.toArray true))).push (some (.cells ds.toArray true))) := by
  obtain ⟨v1, v2, rfl, -, hx, -, hv1, -, -, -, -, -, -, h2⟩ := R36_inv r
  obtain ⟨w1, w2, w3, rfl, -, -, -, -, -, -, hw, -, -, -, d1, d2, hw2, d3, d4, d5, d6, d7, d8, -, hw3, -⟩ := R47_inv s
  have o1 := R25.rone hv1 _ (List.mem_singleton.2 rfl)
  have o2 := R34.rone h2 _ (List.mem_singleton.2 rfl)
  have o3 := R34.rone hw _ (List.mem_singleton.2 rfl)
  have o4 := R25.rone hw2 _ (List.mem_singleton.2 rfl)
  have o5 := R43.rone hw3 _ (List.mem_singleton.2 rfl)
  rw [evalV_call (P := Try.prog) (intr := I) (f := 66) (m := 6) (rs := #[.tmp 4]) hI Try.func66 rfl rfl rfl]
  simp (maxDischargeDepth := 16) only [z05, z08, z09, z0d, z0e, z0o, z0p, z0q, z0s, z0t, z0v, z0w, z11, z1d, z1h, z2o, z3b, z3c, z3f, z4a, z4e, z4f, z4g, z4h, z4i, z4j, z4k, z4l, z4p, z4q, z4r, z4s, z4t, z4u, z4w, z4x, z4y, z4z, z53, Nat.reduceAdd, Nat.reduceSub]
abbrev prevI (y : T47) : Int := y.2.2.2.2.1.1
abbrev entsY (y : T47) : T34 := y.2.2.2.2.2.1
/-- Does the view hold the message's entry? -/
noncomputable def hasY (x : T36) (y : T47) (i : Nat) : Bool := decide (prevI y + i + 1 ≤ f55 x) && decide ((entsY y)[i]? = x.2.2[(prevI y + i - x.2.1.1.1).toNat]?)
theorem exq_kops {P : Program} {call : CallF} {Q : Option (Value × Hp) → Prop} {S : Value → Hp → Prop} {r : Option (Value × Hp)} {ops : Array Oper} {l : List Oper} {Ka : Act → Hp → Option (Value × Hp)} {d : Option Tmp} {a : Act} (x : Ex S r) (H : ∀ v k', S v k' → Q (Kops P call ops l Ka d a (some (v, k')))) :
    Q (Kops P call ops l Ka d a r) := by
  obtain ⟨v, k', rfl, h1⟩ := x
  exact H v k' h1
theorem run94 {I : Intr} (hI : I 94 = none) (hI55 : I 55 = some g55) (hI68 : I 68 = some g68) {N : Nat} {k : Hp} {cs ds : List Value} {x : T36} {y : T47} {p : Nat → Prop} (r : R36.r false p k cs x) (s : R47.r false p k ds y) (hp : ∀ b, p b → b < k.size) (hro : k.ro ≤ k.size)
    {B C l : Nat} (hB : k.get B = some (.cells cs.toArray true)) (hC : k.get C = some (.cells ds.toArray true)) (hBk : B < k.size) (hCk : C < k.size) (q0 : f15 x = 0) (hl1 : x.2.2.length ≤ 1000) (hl2 : (entsY y).length ≤ 1000) (hpv : prevI y ≤ 4611686018427387904) (hpx : x.2.1.1.1 ≤ prevI y + 1 ∨ True) (hN : (entsY y).length + 20 < N)
    (Inv : Nat → Hp → Prop) (F : Hp → Prop)
    (hInv : ∀ i h, Inv i h → Keeps k h ∧ h.ro = k.ro)
    (hmono : ∀ i h h', Inv i h → Keeps h h' → h'.ro = h.ro → Inv i h')
    (hskip : ∀ i h, Inv i h → i < (entsY y).length → prevI y + i + 1 ≤ x.2.1.1.1 → Inv (i + 1) h)
    (hy : ∀ i h, Inv i h → i < (entsY y).length → ¬ prevI y + i + 1 ≤ x.2.1.1.1 → ∃ b h', evalV Try.prog I N (.yield l) #[.int .i64 (i : Int), .bool (hasY x y i)] h = some (.bool b, h') ∧ (if b = true then Inv (i + 1) h' else F h'))
    (hend : ∀ h, Inv (entsY y).length h → F h)
    {h0 : Hp} (h00 : Inv 0 h0) :
    ∃ v h', evalV Try.prog I (N + 1) (.fn 94) #[.func (.yield l) #[] #[], .pointer (some ⟨C, 0, none⟩), .pointer (some ⟨B, 0, none⟩)] h0 = some (v, h') ∧ F h' := by
  have rr := R36.mono r hp id (Fr.refl _)
  have c55 := call_rdk (P := Try.prog) (A := A36) (I := I) (f := 55) (spec := fun x => .int .u64 (f55 x.1)) hI55 N (show A36.r (· < k.size) k [_] (x, ()) from ⟨_, _, rfl, rr, rfl⟩) (by omega)
  have c68 := fun (a b : List Value × T45) (ra : R45.r false (· < k.size) k a.1 a.2) (rb : R45.r false (· < k.size) k b.1 b.2) => call_rdk (P := Try.prog) (A := A45) (I := I) (f := 68) (spec := fun x => .bool (decide (x.1 = x.2.1))) hI68 N (show A45.r (· < k.size) k [.agg a.1.toArray, .agg b.1.toArray] (a.2, b.2, ()) from ⟨_, _, rfl, ra, _, _, rfl, rb, rfl⟩) (by omega)
  obtain ⟨v1, v2, rfl, -, hx, -, hv1, -, -, -, -, -, -, hv2⟩ := R36_inv r
  obtain ⟨w1, w2, w3, rfl, -, -, -, -, hpb, -, hw, -⟩ := R47_inv s
  obtain ⟨a, c, rfl, -, -⟩ := slice_form hw
  obtain ⟨a2, c2, rfl, -, -⟩ := slice_form hv2
  have hb0 : 0 ≤ prevI y ∧ prevI y < 18446744073709551616 := by have := u64_bounds hpb; exact ⟨this.1, by have := this.2; omega⟩
  have hbx := u64_bounds hx
  have hx62 := right_62 q0
  have h55 := last_eq q0 hbx.1 hl1
  obtain ⟨hk0, hr0⟩ := hInv 0 h0 h00
  have hs0 := hk0.size
  have hC0 := (hk0.get C hCk).trans hC
  have n0 : C < h0.size := by omega
  rw [evalV_call (P := Try.prog) (intr := I) (f := 94) (m := 77) (rs := #[]) hI Try.func94 rfl rfl rfl]
  simp (maxDischargeDepth := 16) only [z08, z09, z0d, z0e, z0p, z0q, z0s, z0t, z0v, z0w, z0z, z10, z16, z1e, z1p, z1r, z1v, z2w, z2x, z3b, z4e, z4f, z4g, z4h, z4i, z4m, z4n, z4o, z4p, z4q, z4r, z4s, z4t, z4u, z4w, z4x, z4y, z50, z51, z53, evalC_block, Nat.reduceAdd, Nat.reduceSub, Hp.cell, tFieldAx47x5, tLenx34, tPartx34, hC0, ne_f n0, ne_f0 n0, lt_t n0, lt_t0 n0]
  refine loop_rule (fun r : Option (Value × Hp) => ∃ v h', r = some (v, h') ∧ F h') (fun m z h => ∃ i : Nat, m = (entsY y).length - i ∧ i ≤ (entsY y).length ∧ Inv i h ∧
    z.tmps.size = 77 ∧ z.defers = [] ∧ z.tmps.getD 0 undef = .func (.yield l) #[] #[] ∧ z.tmps.getD 1 undef = .pointer (some ⟨C, 0, none⟩) ∧ z.tmps.getD 2 undef = .pointer (some ⟨B, 0, none⟩) ∧ z.tmps.getD 10 undef = .slice a (entsY y).length c ∧ z.tmps.getD 11 undef = .int .i64 ((entsY y).length : Int) ∧ z.tmps.getD 12 undef = .int .i64 (i : Int)) ?_ _ (entsY y).length _ _ ?_ ?_
  · intro m n' z h hI' ih
    obtain ⟨i, hm, hi, hin, hxs, hxd, l0, l1, l2, l10, l11, l12⟩ := hI'
    obtain ⟨g, rfl⟩ : ∃ g : Nat → Value, z = { tmps := #[.func (.yield l) #[] #[], .pointer (some ⟨C, 0, none⟩), .pointer (some ⟨B, 0, none⟩), g 3, g 4, g 5, g 6, g 7, g 8, g 9, .slice a (entsY y).length c, .int .i64 ((entsY y).length : Int), .int .i64 (i : Int), g 13, g 14, g 15, g 16, g 17, g 18, g 19, g 20, g 21, g 22, g 23, g 24, g 25, g 26, g 27, g 28, g 29, g 30, g 31, g 32, g 33, g 34, g 35, g 36, g 37, g 38, g 39, g 40, g 41, g 42, g 43, g 44, g 45, g 46, g 47, g 48, g 49, g 50, g 51, g 52, g 53, g 54, g 55, g 56, g 57, g 58, g 59, g 60, g 61, g 62, g 63, g 64, g 65, g 66, g 67, g 68, g 69, g 70, g 71, g 72, g 73, g 74, g 75, g 76], defers := [] } := ⟨fun k => z.tmps.getD k undef, (act_eta hxs hxd).trans (by simp only [unrollL, Nat.reduceAdd, Nat.zero_add, l0, l1, l2, l10, l11, l12])⟩; clear hxs hxd l0 l1 l2 l10 l11 l12
    obtain ⟨hk, hr⟩ := hInv i h hin
    have hs := hk.size
    have hC' := (hk.get C hCk).trans hC
    have hB' := (hk.get B hBk).trans hB
    have nC : C < h.size := by omega
    have nB : B < h.size := by omega
    by_cases hlt : i < (entsY y).length
    · have hlt' := lt_cast hlt
      obtain ⟨q1, q2, q3⟩ := dec_meas hlt hm
      obtain ⟨e, he⟩ : ∃ e, (entsY y)[i]? = some e := ⟨_, List.getElem?_eq_getElem hlt⟩
      obtain ⟨b, off, _, cells, ow, part, ee, hb0', hg, -, hp', hle, hex, -⟩ := elem_at (s := 4) hw he rfl (by decide)
      cases ee
      have hb := hp b hb0'
      obtain ⟨u, rfl, d1, d2, d3, hu⟩ := R85_inv hp'
      have hg' := (hk.get b hb).trans hg
      have hb' : b < h.size := by omega
      have hnn : (0 ≤ (i : Int)) = True := by simp
      have w0 : IntKind.u64.wrap (i : Int) = (i : Int) := u64_in (by omega) (by omega)
      have w1' : IntKind.u64.wrap (prevI y + (i : Int)) = prevI y + i := u64_in (by omega) (by omega)
      have w2' : IntKind.u64.wrap (prevI y + (i : Int) + 1) = prevI y + i + 1 := u64_in (by omega) (by omega)
      have w3' : IntKind.i64.wrap ((i : Int) + 1) = ((i + 1 : Nat) : Int) := i64_succ (by omega)
      have r0 : (h.ro ≤ h.size) = True := by simp; omega
      have r1 : ∀ j, (h.ro ≤ h.size + j) = True := fun j => by simp; omega
      have o1 : oneC u = true := R43.rone hu u (List.mem_singleton.2 rfl)
      have hsj : ∀ j, k.size ≤ h.size + j := fun j => by omega
      by_cases g1 : prevI y + i + 1 ≤ x.2.1.1.1
      · simp (maxDischargeDepth := 16) only [z04, z06, z08, z09, z0a, z0b, z0d, z0e, z0g, z0j, z0k, z0p, z0q, z0s, z0t, z0u, z0v, z0w, z0z, z10, z11, z13, z15, z16, z18, z1e, z1f, z1g, z1v, z1w, z1x, z1z, z24, z2d, z2e, z2o, z2u, z2w, z2x, z2y, z2z, z34, z35, z3a, z3b, z3p, z3v, z3w, z44, z45, z46, z49, z4c, z4e, z4f, z4g, z4h, z4i, z4m, z4n, z4o, z4p, z4q, z4r, z4z, z50, z51, z53, z54, z5a, z5f, z72, z7z, evalC_block, Nat.reduceAdd, ↓reduceIte, Hp.cell, Hp.row, Hp.wr, tElemx34, tFieldAx24x0, tFieldAx33x0, tFieldAx36x1, tFieldAx47x4, tIntx3x22, tPartx22, tPartx85, tSizex85, tZerox85, hlt', hnn, hg', ne_f hb', ne_f0 hb', lt_t hb', lt_t0 hb', hle, hex, Int.toNat_natCast, r0, o1, hC', hB', ne_f nC, ne_f0 nC, lt_t nC, lt_t0 nC, ne_f nB, ne_f0 nB, lt_t nB, lt_t0 nB, w0, w1', w2', w3', g1]
        exact ih (m - 1) _ _ q1 ⟨i + 1, q2, q3, hskip i _ (hmono i _ _ hin (by repeat (first | assumption | exact Keeps.refl _ | refine Keeps.push ?_ _ | refine Keeps.set ?_ (by first | omega | (simp only [Hp.size_push, Hp.size_setB]; omega)) _)) rfl) hlt g1, rfl, rfl, rfl, rfl, rfl, rfl, rfl, rfl⟩
      have ey : ∀ h', Keeps h h' → h'.ro = h.ro → Ex (fun v h'' => ∃ b, v = .bool b ∧ if b = true then Inv (i + 1) h'' else F h'') (evalV Try.prog I N (.yield l) #[.int .i64 (i : Int), .bool (hasY x y i)] h') := fun h' hkk hrr => by
        obtain ⟨bb, h'', e1, e2⟩ := hy i h' (hmono i h h' hin hkk hrr) hlt g1
        exact ⟨_, _, e1, bb, rfl, e2⟩
      by_cases g2 : prevI y + i + 1 ≤ f55 x
      case neg =>
        have hh : hasY x y i = false := by unfold hasY; rw [decide_eq_false g2]; rfl
        rw [hh] at ey
        simp (maxDischargeDepth := 16) only [z04, z08, z09, z0a, z0b, z0c, z0d, z0e, z0p, z0q, z0s, z0t, z0u, z0v, z0w, z0x, z0z, z10, z11, z13, z15, z16, z18, z1e, z1f, z1g, z1l, z1v, z1w, z1x, z1z, z24, z2d, z2e, z2o, z2u, z2w, z2x, z2y, z2z, z34, z35, z3a, z3b, z3h, z3i, z3p, z3v, z3w, z3x, z3y, z3z, z41, z43, z44, z45, z46, z49, z4c, z4e, z4f, z4g, z4h, z4i, z4j, z4k, z4l, z4m, z4n, z4o, z4p, z4q, z4r, z4s, z4u, z4v, z4z, z50, z51, z53, z54, z5a, z5b, z5f, z72, z7w, z7x, z7z, evalC_block, Nat.reduceAdd, Nat.reduceSub, ↓reduceIte, Hp.cell, Hp.row, Hp.wr, hasBx55, tElemx34, tFieldAx24x0, tFieldAx33x0, tFieldAx36x1, tFieldAx47x4, tIntx3x22, tPartx22, tPartx36, tPartx85, tSizex85, tZerox85, hlt', hnn, hg', ne_f hb', ne_f0 hb', lt_t hb', lt_t0 hb', hle, hex, Int.toNat_natCast, r0, o1, hC', hB', ne_f nC, ne_f0 nC, lt_t nC, lt_t0 nC, ne_f nB, ne_f0 nB, lt_t nB, lt_t0 nB, w0, w1', w2', g1, g2, c55, hk, hs]
        refine exq_kops (Q := fun r : Option (Value × Hp) => ∃ v h', r = some (v, h') ∧ F h') (ey _ (by repeat (first | assumption | exact Keeps.refl _ | refine Keeps.push ?_ _ | refine Keeps.set ?_ (by first | omega | (simp only [Hp.size_push, Hp.size_setB]; omega)) _)) rfl) ?_
        rintro _ h2 ⟨bb, rfl, hif⟩
        cases bb with
        | false =>
          simp (maxDischargeDepth := 16) only [z05, z0a, z0b, z0d, z0e, z0f, z0i, z0l, z0o, z0p, z0q, z0s, z0t, z0v, z0z, z14, z2h, z3b, z3e, z4e, z4f, z4g, z4h, z4i, z5d]
          exact ⟨_, _, rfl, by simpa using hif⟩
        | true =>
          simp (maxDischargeDepth := 16) only [z04, z08, z0a, z0c, z0d, z0e, z0h, z0k, z0p, z0q, z0s, z0t, z0v, z0w, z0z, z10, z13, z14, z24, z2h, z3b, z4e, z4f, z4g, z4h, z4i, z5c, w3']
          exact ih (m - 1) _ _ q1 ⟨i + 1, q2, q3, by simpa using hif, rfl, rfl, rfl, rfl, rfl, rfl, rfl, rfl⟩
      obtain ⟨n, hn⟩ : ∃ n : Nat, (n : Int) = prevI y + i - x.2.1.1.1 := ⟨(prevI y + i - x.2.1.1.1).toNat, by omega⟩
      have hnt : (prevI y + i - x.2.1.1.1).toNat = n := by omega
      have hnl : n < x.2.2.length := by omega
      obtain ⟨e', he'⟩ : ∃ e', x.2.2[n]? = some e' := ⟨_, List.getElem?_eq_getElem hnl⟩
      obtain ⟨b', off', _, cells', ow', part', ee, hb0'', hg2, -, hp2, hle2, hex2, -⟩ := elem_at (s := 4) hv2 he' rfl (by decide)
      cases ee
      have hb2 := hp b' hb0''
      obtain ⟨u', rfl, d1', d2', d3', hu'⟩ := R85_inv hp2
      have hg2' := (hk.get b' hb2).trans hg2
      have hb2' : b' < h.size := by omega
      have o2 : oneC u' = true := R43.rone hu' u' (List.mem_singleton.2 rfl)
      have x1 : IntKind.u64.wrap (prevI y + (i : Int) + 1 - x.2.1.1.1) = (n : Int) + 1 := by rw [u64_in] <;> omega
      have x2 : IntKind.u64.wrap ((n : Int) + 1 - 1) = (n : Int) := by rw [u64_in] <;> omega
      have x3 : (0 ≤ (n : Int)) = True := by simp
      have x4 : ((n : Int) < (x.2.2.length : Int)) = True := by simp; omega
      have hh : hasY x y i = decide (e = e') := by unfold hasY; rw [decide_eq_true g2, he, hnt, he']; simp
      rw [hh] at ey
      replace c68 := c68 ([u], e.2.2.2) ([u'], e'.2.2.2) (R43.mono hu hp id (Fr.refl _)) (R43.mono hu' hp id (Fr.refl _))
      have hee : e = e' ↔ e.1 = e'.1 ∧ e.2.1 = e'.2.1 ∧ e.2.2.1 = e'.2.2.1 ∧ e.2.2.2 = e'.2.2.2 := by
        obtain ⟨a1, a2, a3, a4⟩ := e
        obtain ⟨b1, b2, b3, b4⟩ := e'
        simp [Prod.ext_iff]
      by_cases m1 : e.1 = e'.1 <;> by_cases m2 : e.2.1 = e'.2.1 <;> by_cases m3 : e.2.2.1 = e'.2.2.1 <;> by_cases m4 : e.2.2.2 = e'.2.2.2 <;>
        simp only [m1, m2, m3, m4, and_true, and_false, true_and, false_and] at hee <;>
        simp only [hee, decide_true, decide_false] at ey <;>
        simp (maxDischargeDepth := 16) only [z04, z08, z09, z0a, z0b, z0c, z0d, z0e, z0p, z0q, z0r, z0s, z0t, z0u, z0v, z0w, z0x, z0z, z10, z11, z12, z13, z15, z16, z18, z1e, z1f, z1g, z1l, z1v, z1w, z1x, z1y, z1z, z24, z25, z2b, z2d, z2e, z2o, z2u, z2w, z2x, z2y, z2z, z33, z34, z35, z38, z39, z3a, z3b, z3h, z3i, z3l, z3p, z3v, z3w, z3x, z3y, z3z, z40, z41, z43, z44, z45, z46, z49, z4a, z4b, z4c, z4d, z4e, z4f, z4g, z4h, z4i, z4j, z4k, z4l, z4m, z4n, z4o, z4p, z4q, z4r, z4s, z4u, z4v, z4z, z50, z51, z52, z53, z54, z59, z5a, z5b, z5e, z5f, z72, z7w, z7x, z7z, evalC_block, Nat.reduceAdd, Nat.reduceSub, ↓reduceIte, yielded, Hp.cell, Hp.row, Hp.wr, hasBx55, hasBx68, tElemx34, tFieldAx24x0, tFieldAx33x0, tFieldAx36x1, tFieldAx36x2, tFieldAx47x4, tFieldAx85x0, tFieldAx85x1, tFieldAx85x2, tFieldAx85x3, tIntx3x22, tPartx3, tPartx22, tPartx28, tPartx34, tPartx36, tPartx45, tPartx85, tSizex85, tZerox85, hlt', hnn, hg', ne_f hb', ne_f0 hb', lt_t hb', lt_t0 hb', hle, hex, Int.toNat_natCast, r0, r1, o1, hC', hB', ne_f nC, ne_f0 nC, lt_t nC, lt_t0 nC, ne_f nB, ne_f0 nB, lt_t nB, lt_t0 nB, w0, w1', w2', g1, eq_true g2, c55, hk, hs, hsj, o2, hg2', ne_f hb2', ne_f0 hb2', lt_t hb2', lt_t0 hb2', hle2, hex2, x1, x2, x3, x4, m1, m2, m3, m4, c68]
      all_goals
        refine exq_kops (Q := fun r : Option (Value × Hp) => ∃ v h', r = some (v, h') ∧ F h') (ey _ (by repeat (first | assumption | exact Keeps.refl _ | refine Keeps.push ?_ _ | refine Keeps.set ?_ (by first | omega | (simp only [Hp.size_push, Hp.size_setB]; omega)) _)) rfl) ?_
        rintro _ h2 ⟨bb, rfl, hif⟩
        cases bb with
        | false =>
          simp (maxDischargeDepth := 16) only [z05, z0a, z0b, z0d, z0e, z0f, z0i, z0l, z0o, z0p, z0q, z0s, z0t, z0v, z0z, z14, z2h, z3b, z3e, z4e, z4f, z4g, z4h, z4i, z5d]
          exact ⟨_, _, rfl, by simpa using hif⟩
        | true =>
          simp (maxDischargeDepth := 16) only [z04, z08, z0a, z0c, z0d, z0e, z0h, z0k, z0p, z0q, z0s, z0t, z0v, z0w, z0z, z10, z13, z14, z24, z2h, z3b, z4e, z4f, z4g, z4h, z4i, z5c, w3']
          exact ih (m - 1) _ _ q1 ⟨i + 1, q2, q3, by simpa using hif, rfl, rfl, rfl, rfl, rfl, rfl, rfl, rfl⟩
    · have hlt' := nlt_cast hlt
      have : i = (entsY y).length := by omega
      subst this
      simp (maxDischargeDepth := 16) only [z06, z08, z09, z0a, z0c, z0d, z0e, z0g, z0j, z0m, z0n, z0p, z0q, z0s, z0t, z0v, z0z, z13, z2d, z3b, z3e, z4e, z4f, z4g, z4h, z4i, z5b, ↓reduceIte, hlt']
      exact ⟨_, _, rfl, hend _ hin⟩
  · omega
  · exact ⟨0, by omega, by omega, h00, rfl, rfl, rfl, rfl, rfl, rfl, rfl, rfl⟩
end Go.Abs.B1
