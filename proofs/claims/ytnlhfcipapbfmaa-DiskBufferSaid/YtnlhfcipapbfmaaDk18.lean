/- The document's disk: rows go down. -/
import Derived.Test.YtnlhfcipapbfmaaDk17
namespace Go.Abs.B1
open Go.Proofs
set_option maxRecDepth 10000
set_option maxHeartbeats 4000000
set_option linter.all false
/-- The rows that stay. -/
def restL (keep : Nat → Bool) : List T167 → Nat → List T167
  | [], _ => []
  | r :: rs, i => if keep i = true then restL keep rs (i + 1) else r :: restL keep rs (i + 1)
def downD (D : DV) (ks : List Bool) : DV := (downL (fun i => (ks[i]?).getD false) D.1 D.2.1 0, restL (fun i => (ks[i]?).getD false) D.2.1 0, D.2.2)
theorem flatRow : FlatE R167 := flatE_pair flatE_int flatE_flat
theorem flatBlk : FlatE R98 := flatE_flat
theorem tRowMR : tRow Try.prog 111 = some (65, 72, zRow) := tRowx111
theorem textMR : rowOrText (Try.prog.underlying 111) = true := by kernel_rfl
theorem textPl : rowOrText (Try.prog.underlying 110) = true := by kernel_rfl
abbrev fresh (h k : Hp) : Nat → Prop := fun c => h.size ≤ c ∧ c < k.size
section
variable {I : Intr} {N : Nat} {k : Hp} {S : Nat → Prop} {b : Nat} {D : DV} {p : Nat → Prop}
theorem ownFr {α : Type} {e : Rp α} {k : Hp} {v : Value} {q : Option Nat} {xs : List α} (r : OwnC e k v q xs) {p : Nat → Prop} (h : ∀ c, q = some c → p c) : (Rp.slice e).r false p k [v] xs :=
  (Rp.slice e).mono r.rp h (by simp) (Fr.refl _)
/-- A disk as a value, its slices its own. -/
def MdOwn (h k : Hp) (u : Value) (E : DV) : Prop := ∃ w1 w2 q5 q6, u = .agg #[w1, w2, .int .i64 E.2.2.1, .int .i64 E.2.2.2.1, .bool E.2.2.2.2.1, .int .i64 E.2.2.2.2.2] ∧ OwnC R98 k w1 q5 E.1 ∧ OwnC R167 k w2 q6 E.2.1 ∧ (∀ c, q5 = some c → h.size ≤ c ∧ q6 ≠ some c) ∧ (∀ c, q6 = some c → h.size ≤ c) ∧ R113.r false (fresh h k) k [w1, w2, .int .i64 E.2.2.1, .int .i64 E.2.2.2.1, .bool E.2.2.2.2.1, .int .i64 E.2.2.2.2.2] E
theorem run_rDownO (J : IRf I) (hN : 30 < N) (hro : k.ro ≤ k.size) {cs : List Value} (r : R113.r false p k cs D) (hp : ∀ c, p c → c < k.size) (wf : WF D) {v : Value} {ks : List Bool} (rk : (Rp.slice Rp.bool).r false p k [v] ks) :
    Al k (fun k' u => MdOwn k k' u (downD D ks)) (evalV Try.prog I N (.fn 108) #[.agg cs.toArray, v] k) := by
  obtain ⟨N, rfl⟩ : ∃ n, N = n + 1 := ⟨N - 1, by omega⟩
  obtain ⟨v1, v2, rfl, hr1, hr2, b1, b2, b3⟩ := R113_inv r
  obtain ⟨a2, c2, rfl, -, -⟩ := slice_form hr2
  obtain ⟨a3, c3, rfl, -, -⟩ := slice_form rk
  obtain ⟨a1, c1, rfl, -, -⟩ := slice_form hr1
  have r0 : ∀ j, (k.ro ≤ k.size + j) = True := fun j => by simp; omega
  have hlr := wf.rows
  have hll := wf.len
  rw [evalV_call (P := Try.prog) (intr := I) (f := 108) (m := 47) (rs := #[.cell 4 113]) J.Down Try.func108 rfl rfl rfl]
  simp (maxDischargeDepth := 16) only [z08, z09, z0d, z0e, z0p, z0q, z0s, z0t, z0v, z0z, z16, z1e, z1g, z1h, z1i, z1m, z1v, z2o, z2w, z2x, z2z, z34, z38, z39, z3a, z3b, z4a, z4e, z4f, z4g, z4h, z4i, z4j, z4k, z4l, z4m, z4n, z4p, z4q, z4r, z4s, z4t, z4u, z4w, z4x, z4y, z4z, z50, z51, z53, z54, z86, Nat.reduceEqDiff, Nat.reduceAdd, Nat.reduceSub, ↓reduceIte, Hp.cell, tFieldAx113x0, tPartx110, tRowx110, tZerox113]
  refine ex_any (Al k _) (Al.ex (copy_c (P := Try.prog) (t := 110) (tx := 110) (e := R98) (q := p) (ys := D.1) (b := k.size + 2) flatBlk tRowPl textPl rfl (by omega) ((Rp.slice R98).mono hr1 (fun _ h => h) id (Keeps.fr (h := k) (by repeat (first | assumption | exact Keeps.refl _ | refine Keeps.push ?_ _ | refine Keeps.set ?_ (by first | omega | (simp only [Hp.size_push, Hp.size_setB]; omega)) _)) hp)) (by simp only [Hp.size_push]; omega) (by simp (maxDischargeDepth := 16) only [z34, z3a, z4a, Nat.reduceAdd, ↓reduceIte]) (by simp only [Hp.ro_push]; omega) (fun c hc => by have := hp c hc; simp only [Hp.size_push]; omega) (fun hc => by have := hp _ hc; omega) (by omega) (by unfold capOpen; omega))) ?_
  rintro v5 k2 ⟨hk2, hr2', q5, hq5, hq5l, o5⟩
  simp only [Hp.size_push, Hp.ro_push] at hq5 hr2'
  have s2 := hk2.size
  simp only [Hp.size_push] at s2
  obtain ⟨c5, rfl⟩ := o5.form_some
  have g20 : k2.get k.size = some (.cells #[.slice a1 D.1.length c1, .slice a2 D.2.1.length c2, .int .i64 D.2.2.1, .int .i64 D.2.2.2.1, .bool D.2.2.2.2.1, .int .i64 D.2.2.2.2.2] true) := (hk2.get _ (by simp only [Hp.size_push]; omega)).trans (by simp (maxDischargeDepth := 16) only [z34, z38, z39, z3a, z4a, Nat.reduceEqDiff, Nat.reduceAdd, ↓reduceIte])
  have g21 : k2.get (k.size + 1) = some (.cells #[.slice none 0 0, .slice none 0 0, .int .i64 0, .int .i64 0, .bool false, .int .i64 0] true) := (hk2.get _ (by simp only [Hp.size_push]; omega)).trans (by simp (maxDischargeDepth := 16) only [z34, z36, z3a, z4a, Nat.reduceEqDiff, Nat.reduceAdd, ↓reduceIte])
  have n20 : k.size < k2.size := by omega
  have kk2 : Keeps k k2 := Keeps.trans (by repeat (first | assumption | exact Keeps.refl _ | refine Keeps.push ?_ _ | refine Keeps.set ?_ (by first | omega | (simp only [Hp.size_push, Hp.size_setB]; omega)) _)) hk2
  simp (maxDischargeDepth := 16) only [z08, z09, z0d, z0e, z0p, z0q, z0s, z0t, z0v, z0w, z0z, z10, z11, z16, z1e, z1p, z1r, z1v, z2w, z2x, z3b, z4e, z4f, z4g, z4h, z4i, z4m, z4n, z4o, z50, z51, z53, evalC_block, Hp.cell, tFieldAx113x1, tLenx111, tPartx111, g20, ne_f n20, ne_f0 n20, lt_t n20, lt_t0 n20]
  refine loop_rule (Al k _) (fun m x h => ∃ (i : Nat) (Q : List (List Value)) (rs : List T167) (v6 : Value) (q6 : Option Nat), m = D.2.1.length - i ∧ i ≤ D.2.1.length ∧ Keeps k h ∧ h.ro = k.ro ∧ k2.size ≤ h.size ∧
    h.get k.size = some (.cells #[.slice a1 D.1.length c1, .slice a2 D.2.1.length c2, .int .i64 D.2.2.1, .int .i64 D.2.2.2.1, .bool D.2.2.2.2.1, .int .i64 D.2.2.2.2.2] true) ∧ h.get (k.size + 1) = some (.cells #[.slice none 0 0, .slice none 0 0, .int .i64 0, .int .i64 0, .bool false, .int .i64 0] true) ∧
    OwnC R98 h (.slice (some ⟨q5, 0, none⟩) D.1.length c5) (some q5) Q ∧ OwnC R167 h v6 q6 rs ∧ (∀ c, q6 = some c → k2.size ≤ c) ∧ rs.length ≤ i ∧ downL (fun i => (ks[i]?).getD false) Q (D.2.1.drop i) i = downL (fun i => (ks[i]?).getD false) D.1 D.2.1 0 ∧ rs ++ restL (fun i => (ks[i]?).getD false) (D.2.1.drop i) i = restL (fun i => (ks[i]?).getD false) D.2.1 0 ∧
    x.tmps.size = 47 ∧ x.defers = [] ∧ x.tmps.getD 1 undef = .slice a3 ks.length c3 ∧ x.tmps.getD 2 undef = .pointer (some ⟨k.size, 0, none⟩) ∧ x.tmps.getD 4 undef = .pointer (some ⟨k.size + 1, 0, none⟩) ∧ x.tmps.getD 5 undef = .slice (some ⟨q5, 0, none⟩) D.1.length c5 ∧ x.tmps.getD 6 undef = v6 ∧ x.tmps.getD 14 undef = .slice a2 D.2.1.length c2 ∧ x.tmps.getD 15 undef = .int .i64 (D.2.1.length : Int) ∧ x.tmps.getD 16 undef = .int .i64 (i : Int)) ?_ _ D.2.1.length _ _ ?_ ?_
  · intro m n' x h hI' ih
    obtain ⟨i, Q, rs, v6, q6, hm, hi, hk, hr, hsz, gd, gz, oQ, oR, hq6, hrl, hdn, hrs, hxs, hxd, l1, l2, l4, l5, l6, l14, l15, l16⟩ := hI'
    obtain ⟨g, rfl⟩ : ∃ g : Nat → Value, x = { tmps := #[g 0, .slice a3 ks.length c3, .pointer (some ⟨k.size, 0, none⟩), g 3, .pointer (some ⟨k.size + 1, 0, none⟩), .slice (some ⟨q5, 0, none⟩) D.1.length c5, v6, g 7, g 8, g 9, g 10, g 11, g 12, g 13, .slice a2 D.2.1.length c2, .int .i64 (D.2.1.length : Int), .int .i64 (i : Int), g 17, g 18, g 19, g 20, g 21, g 22, g 23, g 24, g 25, g 26, g 27, g 28, g 29, g 30, g 31, g 32, g 33, g 34, g 35, g 36, g 37, g 38, g 39, g 40, g 41, g 42, g 43, g 44, g 45, g 46], defers := [] } := ⟨fun k => x.tmps.getD k undef, (act_eta hxs hxd).trans (by simp only [unrollL, Nat.reduceAdd, Nat.zero_add, l1, l2, l4, l5, l6, l14, l15, l16])⟩; clear hxs hxd l1 l2 l4 l5 l6 l14 l15 l16
    have rh : ∀ j, (h.ro ≤ h.size + j) = True := fun j => by simp; omega
    have rh0 : (h.ro ≤ h.size) = True := by simp; omega
    have rk0 : (h.ro ≤ k.size) = True := by simp; omega
    have rk1 : (h.ro ≤ k.size + 1) = True := by simp; omega
    have n0 : k.size < h.size := by omega
    have n1 : k.size + 1 < h.size := by omega
    obtain ⟨a6, c6, hv6⟩ := oR.form
    have hQl : Q.length = D.1.length := by
      have h1 := downL_len (fun i => (ks[i]?).getD false) (D.2.1.drop i) Q i
      have h2 := downL_len (fun i => (ks[i]?).getD false) D.2.1 D.1 0
      rw [hdn] at h1; omega
    by_cases hlt : i < D.2.1.length
    · have hlt' := lt_cast hlt
      obtain ⟨q1, q2, q3⟩ := dec_meas hlt hm
      obtain ⟨z, hz⟩ : ∃ z, D.2.1[i]? = some z := ⟨_, List.getElem?_eq_getElem hlt⟩
      obtain ⟨b2, off2, _, cells2, ow2, part2, ee, hb2, hg2, -, hp2, hle2, hex2, -⟩ := elem_at (s := 65) hr2 hz rfl (by decide)
      cases ee
      obtain ⟨l', rfl, hx1, rfl, hfz⟩ := R167_inv hp2
      have hsec := wf.sec z (List.mem_of_getElem? hz)
      have hgb := (hk.get b2 (hp b2 hb2)).trans hg2
      have hbb2 : b2 < h.size := by have := hp b2 hb2; have := hk.size; omega
      have hii : (0 ≤ (i : Int)) = True := by simp
      have w3 := i64_succ (i := i) (by omega)
      have hz64' : z.2.length = 64 := hfz.len
      have tkz : z.2.take 64 = z.2 := List.take_of_length_le (by omega)
      have hd : D.2.1.drop i = z :: D.2.1.drop (i + 1) := by rw [List.drop_eq_getElem_cons hlt]; congr 1; rw [List.getElem?_eq_getElem hlt] at hz; exact Option.some.inj hz
      have hq5h : q5 < h.size := oQ.lt
      have rq5 : (h.ro ≤ q5) = True := by simp; omega
      obtain ⟨n, hn⟩ : ∃ n : Nat, z.1 = (n : Int) := ⟨z.1.toNat, by omega⟩
      have hnQ : n < Q.length := by omega
      obtain ⟨y, hy⟩ : ∃ y, Q[n]? = some y := ⟨_, List.getElem?_eq_getElem hnQ⟩
      obtain ⟨cx, cells5, hvx, gq5, hle5, hset⟩ := oQ.setIn hy (s := 64) (j := 0) (d := z.2) (y := z.2) rfl (by omega) (fun c hc => (hfz.mem c hc).1) (by
        intro part hpl hpr
        have : part.take 0 ++ (z.2 ++ part.drop (0 + z.2.length)) = z.2 := by simp [List.drop_eq_nil_of_le, hpl, hz64']
        rw [this]; exact ⟨rfl, hfz⟩)
      have hnn : (0 ≤ (n : Int)) = True := by simp
      have hnl : ((n : Int) < (D.1.length : Int)) = True := by simp; omega
      have hq5q6 : ∀ c, q6 = some c → c ≠ q5 ∧ c < h.size := fun c hc => ⟨by have := hq6 c hc; omega, by subst hc; exact oR.lt⟩
      have hq5k : k.size + 2 ≤ q5 := by omega
      by_cases hlk : i < ks.length
      case' pos =>
        obtain ⟨yk, hyk⟩ : ∃ y, ks[i]? = some y := ⟨_, List.getElem?_eq_getElem hlk⟩
        obtain ⟨bb, off, _, cellsk, ow', part, ee, hb0, hg', -, hp', hle, hex, hcell⟩ := elem_at (s := 1) rk hyk rfl (by decide)
        cases ee
        obtain rfl := Rp.bool_inv hp'
        have h1 := hcell 0 (by omega)
        simp only [Nat.add_zero, Nat.mul_one, List.getElem?_cons_zero] at h1
        have hgk := (hk.get bb (hp bb hb0)).trans hg'
        have hbk : bb < h.size := by have := hp bb hb0; have := hk.size; omega
        have hlk' := lt_cast hlk
        cases yk
      case' neg =>
        have hlk' := nlt_cast hlk
      case pos.refl.true =>
        simp (maxDischargeDepth := 16) only [z04, z08, z09, z0a, z0b, z0d, z0e, z0h, z0k, z0p, z0q, z0r, z0s, z0t, z0u, z0v, z0w, z0z, z10, z11, z12, z13, z16, z18, z1e, z1f, z1g, z1p, z1r, z1v, z1w, z1x, z1y, z1z, z24, z2d, z2o, z2u, z2w, z2x, z2y, z2z, z33, z34, z35, z3a, z3b, z3p, z3w, z3x, z3y, z3z, z40, z44, z46, z49, z4c, z4d, z4e, z4f, z4g, z4h, z4i, z4m, z4n, z4o, z4p, z4q, z4r, z4t, z4u, z4z, z50, z51, z52, z53, z54, z5a, z5e, z5f, z72, evalC_block, Nat.reduceAdd, Nat.reduceSub, ↓reduceIte, yielded, Hp.cell, Hp.row, Hp.wr, tElemx92, tElemx110, tElemx111, tFieldAx167x0, tFieldAx167x1, tLenx92, tPartx3, tPartx4, tPartx98, tPartx167, tSizex98, tSizex167, tZerox167, hlt', hii, hgb, ne_f hbb2, ne_f0 hbb2, lt_t hbb2, lt_t0 hbb2, hle2, hex2, Int.toNat_natCast, rh0, hz64', flat_all1 hfz, splice_tail, tkz, hlk', hgk, ne_f hbk, ne_f0 hbk, lt_t hbk, lt_t0 hbk, Nat.mul_one, h1, hn, hnn, hnl, gq5, ne_f hq5h, ne_f0 hq5h, lt_t hq5h, lt_t0 hq5h, rq5, hle5, w3]
        have hki : ((ks[i]?).getD false) = true := by rw [hyk]; rfl
        exact ih (m - 1) _ _ q1 ⟨i + 1, Q.set n z.2, rs, v6, q6, q2, q3, (by repeat (first | assumption | exact Keeps.refl _ | refine Keeps.push ?_ _ | refine Keeps.set ?_ (by first | omega | (simp only [Hp.size_push, Hp.size_setB]; omega)) _)), hr, by simp only [Hp.size_setB, Hp.size_push]; omega, by rw [get_set_ne (by omega), get_set_ne (by omega), get_push_ne (by omega)]; exact gd, by rw [get_set_ne (by omega), get_set_ne (by omega), get_push_ne (by omega)]; exact gz, hset _ (by simp only [Hp.size_setB, Hp.size_push]; omega) get_set_self,
          oR.mono (by simp only [Hp.size_setB, Hp.size_push]; omega) (fun c hc => by have := hq5q6 c hc; rw [get_set_ne this.1, get_set_ne (by omega), get_push_ne (by omega)]), hq6, by omega, by rw [← hdn, hd, downL, hki, if_pos rfl, hn]; rfl, by rw [← hrs, hd, restL, hki, if_pos rfl], rfl, rfl, rfl, rfl, rfl, rfl, rfl, rfl, rfl, rfl⟩
      case' pos.refl.false =>
        simp (maxDischargeDepth := 16) only [z04, z08, z09, z0a, z0b, z0c, z0d, z0e, z0p, z0q, z0r, z0s, z0t, z0u, z0v, z0w, z0z, z10, z11, z12, z13, z18, z1e, z1f, z1g, z1i, z1m, z1p, z1r, z1v, z1w, z1x, z1y, z1z, z2d, z2o, z2u, z2x, z2y, z2z, z33, z34, z35, z3a, z3b, z3p, z3w, z3x, z3y, z3z, z41, z44, z46, z49, z4a, z4b, z4c, z4e, z4f, z4g, z4h, z4i, z4j, z4k, z4l, z4m, z4n, z4o, z4p, z4q, z4r, z4t, z4u, z4z, z50, z51, z52, z53, z5a, z5e, z5f, z72, z7d, z88, evalC_block, Nat.reduceLeDiff, Nat.reduceAdd, Nat.reduceSub, ↓reduceIte, yielded, Hp.cell, Hp.row, Hp.wr, tElemx92, tElemx111, tLenx92, tPartx4, tPartx167, tRowx111, tSizex167, tZerox167, hlt', hii, hgb, ne_f hbb2, ne_f0 hbb2, lt_t hbb2, lt_t0 hbb2, hle2, hex2, Int.toNat_natCast, rh0, hz64', flat_all1 hfz, splice_tail, tkz, hlk', hgk, ne_f hbk, ne_f0 hbk, lt_t hbk, lt_t0 hbk, Nat.mul_one, h1, hn]
        have hki : ((ks[i]?).getD false) = false := by rw [hyk]; rfl
      case' neg =>
        simp (maxDischargeDepth := 16) only [z04, z08, z09, z0a, z0b, z0c, z0d, z0e, z0p, z0q, z0r, z0s, z0t, z0u, z0v, z0w, z0z, z10, z11, z12, z13, z18, z1e, z1f, z1g, z1i, z1m, z1p, z1r, z1v, z1w, z1x, z1y, z1z, z2d, z2o, z2u, z2x, z2y, z2z, z33, z34, z3a, z3b, z3l, z3p, z3w, z3x, z3y, z3z, z41, z44, z46, z49, z4a, z4b, z4c, z4e, z4f, z4g, z4h, z4i, z4j, z4k, z4l, z4m, z4n, z4o, z4p, z4q, z4r, z4t, z4u, z4z, z50, z51, z52, z53, z59, z5a, z5b, z5f, z72, z7d, z88, evalC_block, Nat.reduceLeDiff, Nat.reduceAdd, Nat.reduceSub, ↓reduceIte, yielded, Hp.row, Hp.wr, tElemx111, tLenx92, tPartx167, tRowx111, tSizex167, tZerox167, hlt', hii, hgb, ne_f hbb2, ne_f0 hbb2, lt_t hbb2, lt_t0 hbb2, hle2, hex2, Int.toNat_natCast, rh0, hz64', flat_all1 hfz, splice_tail, tkz, hlk', hn]
        have hki : ((ks[i]?).getD false) = false := by rw [List.getElem?_eq_none (by omega)]; rfl
      all_goals
        refine ex_any (Al k _) (OwnC.append_ex (P := Try.prog) (t := 111) (tx := 111) (e := R167) (xs := rs) (x := z) (b? := q6) (lit := h.size + 1) (cs := (Value.int .i64 (n : Int) :: z.2).toArray) tRowMR textMR rfl (by omega) (oR.mono (by simp only [Hp.size_setB, Hp.size_push]; omega) (fun c hc => by have := hq5q6 c hc; rw [get_push_ne (by simp only [Hp.size_setB, Hp.size_push]; omega), get_set_ne (by omega), get_push_ne (by omega)])) (fun c hc => by simp only [Hp.ro_setB, Hp.ro_push]; have := hq6 c hc; omega) (by simp (maxDischargeDepth := 16) only [z34, z4a, z4b, ↓reduceIte]) (by rw [← hn]; exact R167_mk (x := z) hx1 ⟨rfl, hfz⟩) (by
          intro c hc
          rcases List.mem_cons.1 (by simpa using hc : c ∈ Value.int .i64 (n : Int) :: z.2) with rfl | hc
          · exact flatB_int
          · exact (hfz.mem c hc).1) (by omega) (by unfold capOpen; omega)) ?_
        rintro v7 h3 ⟨b', ho, hbs, r3, g3⟩
        simp only [Hp.size_setB, Hp.size_push, Hp.ro_setB, Hp.ro_push] at hbs r3 g3
        have s3 : h.size + 2 ≤ h3.size := by omega
        have fr3 : ∀ c, c < h.size → (∀ d, q6 = some d → c ≠ d) → h3.get c = h.get c := fun c hc hd => by rw [g3 c (by omega) (fun e => hd c e rfl), get_push_ne (by simp only [Hp.size_setB, Hp.size_push]; omega), get_set_ne (by omega), get_push_ne (by omega)]
        have hb' : k2.size ≤ b' := by
          rcases hbs with ⟨e, _⟩ | ⟨e, _⟩
          · exact hq6 b' e
          · omega
        simp (maxDischargeDepth := 16) only [z08, z0d, z0e, z0h, z0k, z0p, z0q, z0s, z0t, z0v, z0w, z0z, z10, z11, z13, z24, z3b, z4e, z4f, z4g, z4h, z4i, w3]
        exact ih (m - 1) _ _ q1 ⟨i + 1, Q, rs ++ [z], v7, some b', q2, q3, ⟨by omega, fun c hc => by rw [fr3 c (by omega) (fun d hd => by have := hq6 d hd; omega)]; exact hk.get c hc⟩, by omega, by omega, by rw [fr3 _ n0 (fun d hd => by have := hq6 d hd; omega)]; exact gd, by rw [fr3 _ n1 (fun d hd => by have := hq6 d hd; omega)]; exact gz,
          oQ.mono (by omega) (fun c hc => by cases hc; exact fr3 _ hq5h (fun d hd => by have := hq6 d hd; omega)), ho, fun c hc => by cases hc; exact hb', by simp only [List.length_append, List.length_cons, List.length_nil]; omega, by rw [← hdn, hd, downL, hki]; rfl, by rw [← hrs, hd, restL, hki]; simp, rfl, rfl, rfl, rfl, rfl, rfl, rfl, rfl, rfl, rfl⟩
    · have hlt' := nlt_cast hlt
      subst hv6
      simp (maxDischargeDepth := 16) only [z05, z06, z08, z09, z0a, z0c, z0d, z0e, z0g, z0j, z0m, z0o, z0p, z0q, z0s, z0t, z0u, z0v, z0z, z10, z13, z16, z1e, z1f, z1v, z1w, z1x, z2d, z2o, z2q, z2w, z2x, z2y, z33, z35, z37, z39, z3b, z3c, z3g, z3p, z3q, z3s, z3v, z3w, z3x, z3y, z3z, z41, z43, z44, z45, z46, z49, z4d, z4e, z4f, z4g, z4h, z4i, z4p, z4q, z4r, z4z, z50, z51, z53, z54, z5b, z5f, z72, Nat.reduceLeDiff, Nat.reduceAdd, Nat.reduceSub, ↓reduceIte, Hp.row, Hp.wr, tFieldAx113x0, tFieldAx113x1, tPartx113, tSizex110, tSizex111, tSizex113, hlt', gd, gz, ne_f n0, ne_f0 n0, lt_t n0, lt_t0 n0, ne_f n1, ne_f0 n1, lt_t n1, lt_t0 n1, rk0, rk1]
      have hdrop : D.2.1.drop i = [] := List.drop_eq_nil_of_le (by omega)
      rw [hdrop] at hdn hrs
      rw [restL, List.append_nil] at hrs
      rw [downL] at hdn
      have key : ∀ h' : Hp, h.size ≤ h'.size → (∀ c, k.size + 2 ≤ c → h'.get c = h.get c) → MdOwn k h' (.agg #[.slice (some ⟨q5, 0, none⟩) D.1.length c5, .slice a6 rs.length c6, .int .i64 D.2.2.1, .int .i64 D.2.2.2.1, .bool D.2.2.2.2.1, .int .i64 D.2.2.2.2.2]) (downD D ks) := fun h' hs hg => by
        have e1 : (downD D ks).1 = Q := hdn.symm
        have e2 : (downD D ks).2.1 = rs := hrs.symm
        have hq := oQ.lt
        have w1 := oQ.mono (k' := h') hs (fun c hc => by cases hc; exact hg _ (by omega))
        have w2 := oR.mono (k' := h') hs (fun c hc => hg c (by have := hq6 c hc; omega))
        refine ⟨_, _, some q5, q6, rfl, by rw [e1]; exact w1, by rw [e2]; exact w2, fun c hc => by cases hc; exact ⟨by omega, fun h => by have := hq6 _ h; omega⟩, fun c hc => by have := hq6 c hc; omega, R113_mk (x := downD D ks) ?_ ?_ b1 b2 b3⟩
        · rw [e1]
          exact ownFr w1 (fun c hc => by cases hc; exact ⟨by omega, by omega⟩)
        · rw [e2]
          exact ownFr w2 (fun c hc => ⟨by have := hq6 c hc; omega, by have h1 : c < h.size := (by subst hc; exact oR.lt); omega⟩)
      exact Al.done (by repeat (first | assumption | exact Keeps.refl _ | refine Keeps.push ?_ _ | refine Keeps.set ?_ (by first | omega | (simp only [Hp.size_push, Hp.size_setB]; omega)) _)) hr (key _ (by simp only [Hp.size_setB]; omega) (fun c hc => by rw [get_set_ne (by omega), get_set_ne (by omega), get_set_ne (by omega)]))
  · omega
  · exact ⟨0, D.1, [], .slice none 0 0, none, by omega, by omega, kk2, by omega, Nat.le_refl _, g20, g21, o5, OwnC.nil, fun c hc => (by cases hc), by simp, by simp, by simp, rfl, rfl, rfl, rfl, rfl, rfl, rfl, rfl, rfl, rfl⟩
theorem run_rDown (J : IRf I) (hN : 30 < N) (hro : k.ro ≤ k.size) {cs : List Value} (r : R113.r false p k cs D) (hp : ∀ c, p c → c < k.size) (wf : WF D) {v : Value} {ks : List Bool} (rk : (Rp.slice Rp.bool).r false p k [v] ks) :
    Al k (fun k' u => ∃ cs', u = .agg cs'.toArray ∧ R113.r false (fresh k k') k' cs' (downD D ks)) (evalV Try.prog I N (.fn 108) #[.agg cs.toArray, v] k) := by
  obtain ⟨u, k', e, h1, h2, w1, w2, q5, q6, rfl, -, -, -, -, h3⟩ := run_rDownO J hN hro r hp wf rk
  exact ⟨_, k', e, h1, h2, _, rfl, h3⟩
end
end Go.Abs.B1
