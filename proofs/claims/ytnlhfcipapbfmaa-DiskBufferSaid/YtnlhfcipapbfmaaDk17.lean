/- The document's disk: what a sector shows; a new one; yes, so often. -/
import Derived.Test.YtnlhfcipapbfmaaDk16
namespace Go.Abs.B1
open Go.Proofs
set_option maxRecDepth 10000
set_option maxHeartbeats 4000000
set_option linter.all false
def showF (i : Int) : List Value → List T167 → List Value
  | cur, [] => cur
  | cur, r :: rs => showF i (if r.1 = i then r.2 else cur) rs
theorem showF_none (i : Int) : ∀ (rs : List T167) (cur : List Value), (∀ x ∈ rs, x.1 ≠ i) → showF i cur rs = cur
  | [], cur, _ => rfl
  | r :: rs, cur, h => by rw [showF, if_neg (h r List.mem_cons_self)]; exact showF_none i rs cur fun x hx => h x (List.mem_cons_of_mem _ hx)
theorem showF_one (i : Int) : ∀ (rs : List T167) (cur : List Value) (j : Nat) (y : T167), (rs.map (·.1)).Nodup → rs[j]? = some y → y.1 = i → showF i cur rs = y.2
  | [], cur, j, y, _, h, _ => by simp at h
  | r :: rs, cur, 0, y, hn, h, hy => by
    simp at h; subst h
    rw [List.map_cons, List.nodup_cons] at hn
    rw [showF, if_pos hy]
    exact showF_none i rs _ fun x hx e => hn.1 (by rw [hy, ← e]; exact List.mem_map_of_mem hx)
  | r :: rs, cur, j + 1, y, hn, h, hy => by
    rw [List.map_cons, List.nodup_cons] at hn
    have h' : rs[j]? = some y := by simpa using h
    rw [showF, if_neg (fun e => hn.1 (by rw [e, ← hy]; exact List.mem_map_of_mem (List.mem_of_getElem? h')))]
    exact showF_one i rs cur j y hn.2 h' hy
theorem showF_eq {D : DV} (h : WF D) {n : Nat} {y : List Value} (hy : D.1[n]? = some y) : showF n y D.2.1 = showS D n := by
  unfold showS
  rcases idxF_range (n : Int) D.2.1 0 with ⟨q, hq⟩ | ⟨j, x, q1, q2, q3, -⟩
  · rw [q, if_neg (by omega), showF_none _ _ _ hq, Int.toNat_natCast, hy]; rfl
  · rw [Nat.zero_add] at q3
    rw [q3, if_pos (by omega), Int.toNat_natCast, q1, showF_one _ _ _ j x h.nod q1 q2]; rfl
section
variable {I : Intr} {N : Nat} {k : Hp} {S : Nat → Prop} {b : Nat} {D : DV} {p : Nat → Prop}
theorem run_rShows (J : IRf I) (hN : 20 < N) (hro : k.ro ≤ k.size) {cs : List Value} (r : R113.r false p k cs D) (hp : ∀ c, p c → c < k.size) (wf : WF D) {n : Nat} (hn : n < D.1.length) :
    Al k (fun _ u => u = .agg (showS D n).toArray ∧ flatOk K98 (showS D n)) (evalV Try.prog I N (.fn 47) #[.agg cs.toArray, .int .i64 (n : Int)] k) := by
  obtain ⟨N, rfl⟩ : ∃ n, N = n + 1 := ⟨N - 1, by omega⟩
  obtain ⟨v1, v2, rfl, hr1, hr2, -⟩ := R113_inv r
  obtain ⟨a2, c2, rfl, -, -⟩ := slice_form hr2
  obtain ⟨y, hy⟩ : ∃ y, D.1[n]? = some y := ⟨_, List.getElem?_eq_getElem hn⟩
  obtain ⟨bb, off, _, cells, ow', part, ee, hb0, hg', -, ⟨rfl, hfy⟩, hle, hex, -⟩ := elem_at (s := 64) hr1 hy rfl (by decide)
  cases ee
  have hbb := hp bb hb0
  have r0 : ∀ j, (k.ro ≤ k.size + j) = True := fun j => by simp; omega
  have hnn : (0 ≤ (n : Int)) = True := by simp
  have hlt0 : ((n : Int) < (D.1.length : Int)) = True := by simp; omega
  have hy64 : part.length = 64 := hfy.len
  have tk : part.take 64 = part := List.take_of_length_le (by omega)
  have hlr := wf.rows
  have spz : splice zeroB.toArray 0 part = part.toArray := splice_full (by simp [zeroB, hy64])
  have sp64 : ∀ (cs : List Value), cs.length = 64 → ∀ l : List Value, l.length = 64 → splice l.toArray 0 cs = cs.toArray := fun cs h l hl => splice_full (by simp [h, hl])
  rw [evalV_call (P := Try.prog) (intr := I) (f := 47) (m := 28) (rs := #[.cell 4 98]) J.Shows Try.func47 rfl rfl rfl]
  simp (maxDischargeDepth := 16) only [z08, z09, z0d, z0e, z0p, z0q, z0s, z0t, z0u, z0v, z0w, z0z, z10, z16, z18, z1e, z1f, z1g, z1h, z1p, z1r, z1v, z1w, z1x, z1z, z2o, z2u, z2w, z2x, z2y, z2z, z34, z35, z38, z39, z3a, z3b, z46, z49, z4a, z4c, z4e, z4f, z4g, z4h, z4i, z4m, z4n, z4o, z4p, z4q, z4r, z4s, z4t, z4u, z4w, z4x, z4y, z4z, z50, z51, z53, z54, z72, evalC_block, Nat.reduceEqDiff, Nat.reduceAdd, Nat.reduceSub, ↓reduceIte, Hp.cell, Hp.row, Hp.wr, tElemx110, tFieldAx113x0, tFieldAx113x1, tLenx111, tPartx98, tPartx110, tPartx111, tSizex98, tZerox98, ne_f hbb, ne_f0 hbb, lt_t hbb, lt_t0 hbb, hg', hle, hex, hnn, hlt0, Int.toNat_natCast, r0, hy64, flat_all1 hfy, sp64]
  refine loop_rule (Al k _) (fun m x h => ∃ i : Nat, ∃ cur : List Value, m = D.2.1.length - i ∧ i ≤ D.2.1.length ∧ Keeps k h ∧ h.ro = k.ro ∧ k.size + 3 ≤ h.size ∧ h.get (k.size + 2) = some (.cells cur.toArray true) ∧ h.get (k.size + 1) = some (.cells zeroB.toArray true) ∧ flatOk K98 cur ∧ showF n cur (D.2.1.drop i) = showF n part D.2.1 ∧
    x.tmps.size = 28 ∧ x.defers = [] ∧ x.tmps.getD 1 undef = .int .i64 (n : Int) ∧ x.tmps.getD 4 undef = .pointer (some ⟨k.size + 1, 0, none⟩) ∧ x.tmps.getD 5 undef = .pointer (some ⟨k.size + 2, 0, none⟩) ∧ x.tmps.getD 14 undef = .slice a2 D.2.1.length c2 ∧ x.tmps.getD 15 undef = .int .i64 (D.2.1.length : Int) ∧ x.tmps.getD 16 undef = .int .i64 (i : Int)) ?_ _ D.2.1.length _ _ ?_ ?_
  · intro m n' x h hI' ih
    obtain ⟨i, cur, hm, hi, hk, hr, hsz, gc, gz, hfc, hsh, hxs, hxd, l1, l4, l5, l14, l15, l16⟩ := hI'
    obtain ⟨g, rfl⟩ : ∃ g : Nat → Value, x = { tmps := #[g 0, .int .i64 (n : Int), g 2, g 3, .pointer (some ⟨k.size + 1, 0, none⟩), .pointer (some ⟨k.size + 2, 0, none⟩), g 6, g 7, g 8, g 9, g 10, g 11, g 12, g 13, .slice a2 D.2.1.length c2, .int .i64 (D.2.1.length : Int), .int .i64 (i : Int), g 17, g 18, g 19, g 20, g 21, g 22, g 23, g 24, g 25, g 26, g 27], defers := [] } := ⟨fun k => x.tmps.getD k undef, (act_eta hxs hxd).trans (by simp only [unrollL, Nat.reduceAdd, Nat.zero_add, l1, l4, l5, l14, l15, l16])⟩; clear hxs hxd l1 l4 l5 l14 l15 l16
    have hc64 : cur.length = 64 := hfc.len
    have hz64 : zeroB.length = 64 := rfl
    have rh : ∀ j, (h.ro ≤ h.size + j) = True := fun j => by simp; omega
    have rh0 : (h.ro ≤ h.size) = True := by simp; omega
    have rk2 : (h.ro ≤ k.size + 2) = True := by simp; omega
    have rk1 : (h.ro ≤ k.size + 1) = True := by simp; omega
    have n2 : k.size + 2 < h.size := by omega
    have n1 : k.size + 1 < h.size := by omega
    by_cases hlt : i < D.2.1.length
    · have hlt' := lt_cast hlt
      obtain ⟨q1, q2, q3⟩ := dec_meas hlt hm
      obtain ⟨z, hz⟩ : ∃ z, D.2.1[i]? = some z := ⟨_, List.getElem?_eq_getElem hlt⟩
      obtain ⟨b2, off2, _, cells2, ow2, part2, ee, hb2, hg2, -, hp2, hle2, hex2, -⟩ := elem_at (s := 65) hr2 hz rfl (by decide)
      cases ee
      obtain ⟨l', rfl, hx1, rfl, hfz⟩ := R167_inv hp2
      have hgb := (hk.get b2 (hp b2 hb2)).trans hg2
      have hbb2 : b2 < h.size := by have := hp b2 hb2; have := hk.size; omega
      have hii : (0 ≤ (i : Int)) = True := by simp
      have w3 := i64_succ (i := i) (by omega)
      have hz64' : z.2.length = 64 := hfz.len
      have tkz : z.2.take 64 = z.2 := List.take_of_length_le (by omega)
      have hd : D.2.1.drop i = z :: D.2.1.drop (i + 1) := by rw [List.drop_eq_getElem_cons hlt]; congr 1; rw [List.getElem?_eq_getElem hlt] at hz; exact Option.some.inj hz
      have spc : splice cur.toArray 0 z.2 = z.2.toArray := splice_full (by simp [hc64, hz64'])
      have hc64' : 64 ≤ cur.length := by omega
      by_cases hq : z.1 = (n : Int)
      · simp (maxDischargeDepth := 16) only [z04, z08, z09, z0a, z0b, z0d, z0e, z0h, z0k, z0p, z0q, z0s, z0t, z0u, z0v, z0w, z0z, z10, z13, z16, z18, z1e, z1f, z1g, z1v, z1w, z1x, z1z, z24, z2b, z2d, z2o, z2u, z2w, z2x, z2y, z2z, z33, z34, z35, z3a, z3b, z3p, z3w, z3x, z3y, z3z, z40, z44, z46, z49, z4c, z4d, z4e, z4f, z4g, z4h, z4i, z4m, z4n, z4p, z4q, z4r, z4t, z4u, z4z, z50, z51, z53, z54, z5a, z5f, z72, evalC_block, Nat.reduceAdd, Nat.reduceSub, ↓reduceIte, Hp.cell, Hp.row, Hp.wr, tElemx111, tFieldAx167x0, tFieldAx167x1, tPartx3, tPartx98, tPartx167, tSizex98, tSizex167, tZerox167, hlt', hii, hgb, ne_f hbb2, ne_f0 hbb2, lt_t hbb2, lt_t0 hbb2, hle2, hex2, Int.toNat_natCast, rh0, hz64', flat_all1 hfz, splice_tail, tkz, eq_true hq, gc, ne_f n2, ne_f0 n2, lt_t n2, lt_t0 n2, rk2, spc, hc64', w3]
        exact ih (m - 1) _ _ q1 ⟨i + 1, z.2, q2, q3, (by repeat (first | assumption | exact Keeps.refl _ | refine Keeps.push ?_ _ | refine Keeps.set ?_ (by first | omega | (simp only [Hp.size_push, Hp.size_setB]; omega)) _)), hr, by simp only [Hp.size_setB, Hp.size_push]; omega, get_set_self, by rw [get_set_ne (by omega), get_set_ne (by omega), get_push_ne (by omega)]; exact gz, hfz, by rw [← hsh, hd, showF, if_pos hq], rfl, rfl, rfl, rfl, rfl, rfl, rfl, rfl⟩
      · simp (maxDischargeDepth := 16) only [z04, z08, z09, z0a, z0b, z0c, z0d, z0e, z0h, z0k, z0p, z0q, z0s, z0t, z0u, z0v, z0w, z0z, z10, z13, z16, z18, z1e, z1f, z1g, z1v, z1w, z1x, z1z, z24, z2b, z2d, z2o, z2u, z2w, z2x, z2y, z2z, z33, z34, z3a, z3b, z3p, z3w, z44, z46, z49, z4c, z4e, z4f, z4g, z4h, z4i, z4m, z4n, z4p, z4q, z4r, z4t, z4u, z4z, z50, z51, z53, z54, z5a, z5b, z5f, z72, evalC_block, Nat.reduceAdd, ↓reduceIte, Hp.cell, Hp.row, Hp.wr, tElemx111, tFieldAx167x0, tPartx3, tPartx167, tSizex167, tZerox167, hlt', hii, hgb, ne_f hbb2, ne_f0 hbb2, lt_t hbb2, lt_t0 hbb2, hle2, hex2, Int.toNat_natCast, rh0, hz64', flat_all1 hfz, splice_tail, hq, w3]
        exact ih (m - 1) _ _ q1 ⟨i + 1, cur, q2, q3, (by repeat (first | assumption | exact Keeps.refl _ | refine Keeps.push ?_ _ | refine Keeps.set ?_ (by first | omega | (simp only [Hp.size_push, Hp.size_setB]; omega)) _)), hr, by simp only [Hp.size_setB, Hp.size_push]; omega, by rw [get_set_ne (by omega), get_push_ne (by omega)]; exact gc, by rw [get_set_ne (by omega), get_push_ne (by omega)]; exact gz, hfc, by rw [← hsh, hd, showF, if_neg hq], rfl, rfl, rfl, rfl, rfl, rfl, rfl, rfl⟩
    · have hlt' := nlt_cast hlt
      have tkc : cur.take 64 = cur := List.take_of_length_le (by omega)
      have spf : splice zeroB.toArray 0 cur = cur.toArray := splice_full (by simp [zeroB, hc64])
      have hcs : cur = showS D n := by
        rw [List.drop_eq_nil_of_le (by omega), showF] at hsh
        rw [hsh]; exact showF_eq wf hy
      have hz64' : 64 ≤ zeroB.length := by rw [hz64]; omega
      have hc64' : 64 ≤ cur.length := by omega
      simp (maxDischargeDepth := 16) only [z05, z06, z08, z09, z0a, z0c, z0d, z0e, z0g, z0j, z0m, z0o, z0p, z0q, z0s, z0t, z0u, z0v, z0z, z13, z1e, z1f, z1v, z1w, z1x, z2d, z2o, z2x, z2y, z33, z3b, z3c, z3g, z3x, z3y, z3z, z46, z49, z4e, z4f, z4g, z4h, z4i, z4p, z4z, z53, z5b, z72, Nat.reduceSub, ↓reduceIte, Hp.row, Hp.wr, tPartx98, tSizex98, hlt', gc, gz, ne_f n2, ne_f0 n2, lt_t n2, lt_t0 n2, ne_f n1, ne_f0 n1, lt_t n1, lt_t0 n1, rk1, hc64, flat_all1 hfc, tkc, spf, hz64]
      exact Al.done (by repeat (first | assumption | exact Keeps.refl _ | refine Keeps.push ?_ _ | refine Keeps.set ?_ (by first | omega | (simp only [Hp.size_push, Hp.size_setB]; omega)) _)) hr ⟨by rw [← hcs], hcs ▸ hfc⟩
  · omega
  · exact ⟨0, part, by omega, by omega, (by repeat (first | assumption | exact Keeps.refl _ | refine Keeps.push ?_ _ | refine Keeps.set ?_ (by first | omega | (simp only [Hp.size_push, Hp.size_setB]; omega)) _)), rfl, by simp only [Hp.size_setB, Hp.size_push]; omega, get_set_self, by simp (maxDischargeDepth := 16) only [z34, z35, z36, z3a, z4a, Nat.reduceEqDiff, Nat.reduceAdd, ↓reduceIte]; rfl, hfy, by simp, rfl, rfl, rfl, rfl, rfl, rfl, rfl, rfl⟩
end
end Go.Abs.B1
