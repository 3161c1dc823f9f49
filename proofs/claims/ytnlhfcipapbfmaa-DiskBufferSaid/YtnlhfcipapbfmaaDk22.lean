/- The document's disk: Write. -/
import Derived.Test.YtnlhfcipapbfmaaDk21
namespace Go.Abs.B1
open Go.Proofs
set_option maxRecDepth 10000
set_option maxHeartbeats 4000000
set_option linter.all false
theorem downL_none {f : Nat → Bool} : ∀ (rs : List T167) (P : List (List Value)) (i : Nat), (∀ j, i ≤ j → f j = false) → downL f P rs i = P ∧ restL f rs i = rs
  | [], P, i, h => ⟨rfl, rfl⟩
  | r :: rs, P, i, h => by
    obtain ⟨h1, h2⟩ := downL_none rs P (i + 1) fun j hj => h j (by omega)
    rw [downL, restL, h i (Nat.le_refl _)]
    simp only [Bool.false_eq_true, if_false]
    exact ⟨h1, by rw [h2]⟩
theorem putS_full {E : DV} {i : Int} {x : List Value} (h : idxF i E.2.1 0 = -1) (h8 : E.2.1.length = 8) : putS E i x = ((downD E [true]).1, (downD E [true]).2.1 ++ [(i, x)], E.2.2) := by
  obtain ⟨P, R, t⟩ := E
  cases R with
  | nil => simp at h8
  | cons r rs =>
    obtain ⟨h1, h2⟩ := downL_none (f := fun i => ([true][i]?).getD false) rs (P.set r.1.toNat r.2) 1 (fun j hj => by
      cases j with
      | zero => omega
      | succ j => rfl)
    unfold putS downD
    rw [if_neg (by simp only [] at h ⊢; rw [h]; decide)]
    simp only [downL, restL]
    simp only [List.length_cons] at h8
    simp only [List.getElem?_cons_zero, Option.getD_some, if_true, h1, h2]
    rw [if_pos (by omega)]
theorem putS_add {E : DV} {i : Int} {x : List Value} (h : idxF i E.2.1 0 = -1) (h8 : E.2.1.length ≠ 8) : putS E i x = (E.1, E.2.1 ++ [(i, x)], E.2.2) := by
  obtain ⟨P, R, t⟩ := E
  unfold putS
  rw [if_neg (by simp only [] at h ⊢; rw [h]; decide)]
  cases R with
  | nil => rfl
  | cons r rs =>
    simp only [List.length_cons] at h8 ⊢
    rw [if_neg (by omega)]
theorem ownLit {h : Hp} {c : Nat} (hg : h.get c = some (.cells #[.bool true] true)) (hc : c < h.size) : OwnC Rp.bool h (.slice (some ⟨c, 0, none⟩) 1 1) (some c) [true] :=
  .inr ⟨c, 1, #[.bool true], rfl, rfl, .inr ⟨by decide, by decide⟩, by decide, by decide, hc, hg, fun w hw => by simp at hw; subst hw; exact flatB_bool, by decide, by
    rw [show (#[Value.bool true].toList.take ([true].length * Rp.bool.len)) = [.bool true] from rfl]
    exact rows.one_row (e := Rp.bool) rfl⟩
section
variable {I : Intr} {N : Nat} {k : Hp} {S : Nat → Prop} {b : Nat} {D : DV} {p : Nat → Prop}
theorem run_rWrite (J : IRf I) (hN : 60 < N) (hro : k.ro ≤ k.size) {cs : List Value} (r : R113.r false p k cs D) (hp : ∀ c, p c → c < k.size) (wf : WF D) {i : Int} {x : List Value} (hi64 : i64ok i) (hf : flatOk K98 x) :
    Al k (fun k' u => ∃ cs', u = .tuple #[.agg cs'.toArray, .int .i64 (writeS D i x).2] ∧ R113.r false (grow p k k') k' cs' (writeS D i x).1) (evalV Try.prog I N (.fn 82) #[.agg cs.toArray, .int .i64 i, .agg x.toArray] k) := by
  obtain ⟨N, rfl⟩ : ∃ n, N = n + 1 := ⟨N - 1, by omega⟩
  obtain ⟨v1, v2, rfl, hr1, hr2, b1, b2, b3⟩ := R113_inv r
  have ow1 := (R110).rone hr1 v1 (List.mem_singleton.2 rfl)
  have ow2 := (R111).rone hr2 v2 (List.mem_singleton.2 rfl)
  obtain ⟨a1, c1, hv1, -, -⟩ := slice_form hr1
  have r0 : (k.ro ≤ k.size) = True := by simp [hro]
  have r1 : ∀ j, (k.ro ≤ k.size + j) = True := fun j => by simp; omega
  have wE := actS_wf i true wf
  obtain ⟨eE1, eE2⟩ := actS_keeps D i true
  have hx64 : x.length = 64 := hf.len
  have hx64' : 64 ≤ x.length := by omega
  have o1 := flat_all1 hf
  have tk : x.take 64 = x := List.take_of_length_le (by omega)
  rw [evalV_call (P := Try.prog) (intr := I) (f := 82) (m := 62) (rs := #[.cell 6 113, .tmp 7]) J.Write Try.func82 rfl rfl rfl]
  simp (maxDischargeDepth := 16) only [z08, z09, z0d, z0e, z0p, z0q, z0s, z0t, z0v, z0w, z0x, z0z, z10, z11, z1e, z1g, z1h, z1l, z1v, z2o, z2x, z2z, z34, z38, z39, z3a, z3b, z3h, z3x, z3y, z3z, z41, z43, z46, z4a, z4e, z4f, z4g, z4h, z4i, z4j, z4k, z4l, z4p, z4q, z4r, z4s, z4t, z4u, z4v, z4w, z4x, z4y, z4z, z53, Nat.reduceEqDiff, Nat.reduceAdd, Nat.reduceSub, ↓reduceIte, Hp.row, hasBx107, tPartx113, tZerox113]
  refine ex_any (Al k _) (Al.ex (run_rAct (D := D) (v1 := v1) (v2 := v2) J (N := N) (by omega) (by simp only [Hp.size_push, Hp.ro_push]; omega) hv1 ow2 (i := i) (w := true))) ?_
  rintro _ k1 ⟨hk1, hr1', rfl⟩
  simp only [Hp.ro_push] at hr1'
  have s1 := hk1.size
  simp only [Hp.size_push] at s1
  have g0 := hk1.get k.size (by simp only [Hp.size_push]; omega)
  have g1 := hk1.get (k.size + 1) (by simp only [Hp.size_push]; omega)
  have g2 := hk1.get (k.size + 2) (by simp only [Hp.size_push]; omega)
  simp (maxDischargeDepth := 16) only [z34, z36, z38, z39, z3a, z4a, Nat.reduceEqDiff, Nat.reduceAdd, ↓reduceIte] at g0 g1 g2
  have n0 : k.size < k1.size := by omega
  have n1 : k.size + 1 < k1.size := by omega
  have n2 : k.size + 2 < k1.size := by omega
  have q0 : (k1.ro ≤ k.size) = True := by rw [hr1']; exact r0
  have q1 : ∀ j, (k1.ro ≤ k.size + j) = True := fun j => by rw [hr1']; exact r1 j
  have kk1 : Keeps k k1 := Keeps.trans (by repeat (first | assumption | exact Keeps.refl _ | refine Keeps.push ?_ _ | refine Keeps.set ?_ (by first | omega | (simp only [Hp.size_push, Hp.size_setB]; omega)) _)) hk1
  have hmd : ∀ h' : Hp, Keeps k h' → R113.r false (grow p k h') h' [v1, v2, .int .i64 (actS D i true).1.2.2.1, .int .i64 (actS D i true).1.2.2.2.1, .bool (actS D i true).1.2.2.2.2.1, .int .i64 (actS D i true).1.2.2.2.2.2] (actS D i true).1 := fun h' hk => md_bounds wE (by rw [eE1]; exact R110.mono hr1 (fun c hc => .inl hc) id (hk.fr hp)) (by rw [eE2]; exact R111.mono hr2 (fun c hc => .inl hc) id (hk.fr hp))
  by_cases he : (actS D i true).2 = 0
  case neg =>
    have es : writeS D i x = actS D i true := by unfold writeS; rw [if_neg he]
    rw [es]
    simp (maxDischargeDepth := 16) only [z05, z08, z09, z0a, z0b, z0d, z0e, z0f, z0o, z0p, z0q, z0s, z0t, z0u, z0v, z0w, z0z, z10, z11, z13, z1a, z1e, z1f, z1v, z1w, z1x, z2c, z2o, z2t, z2x, z2y, z33, z35, z37, z3b, z3d, z3f, z3g, z3p, z3q, z3v, z3w, z3x, z3y, z3z, z41, z43, z44, z45, z46, z49, z4d, z4e, z4f, z4g, z4h, z4i, z4m, z4n, z4o, z4p, z4q, z4r, z4z, z52, z53, z5b, z5d, z5f, z72, Nat.reduceEqDiff, Nat.reduceAdd, Nat.reduceSub, ↓reduceIte, Hp.row, Hp.wr, tPartx113, tSizex113, mdV, g0, g2, ne_f n0, ne_f0 n0, lt_t n0, lt_t0 n0, ne_f n1, ne_f0 n1, lt_t n1, lt_t0 n1, ne_f n2, ne_f0 n2, lt_t n2, lt_t0 n2, q0, q1, he, ow1, ow2]
    exact Al.done (by repeat (first | assumption | exact Keeps.refl _ | refine Keeps.push ?_ _ | refine Keeps.set ?_ (by first | omega | (simp only [Hp.size_push, Hp.size_setB]; omega)) _)) (by simp only [Hp.ro_setB]; omega) ⟨_, rfl, hmd _ (by repeat (first | assumption | exact Keeps.refl _ | refine Keeps.push ?_ _ | refine Keeps.set ?_ (by first | omega | (simp only [Hp.size_push, Hp.size_setB]; omega)) _))⟩
  obtain ⟨n, rfl, hn⟩ := actS_ok he
  have es : writeS D n x = (putS (actS D n true).1 n x, 0) := by unfold writeS; rw [if_pos he]
  have hlr : (actS D n true).1.2.1.length ≤ 8 := wE.rows
  rw [es]
  simp (maxDischargeDepth := 16) only [z04, z08, z09, z0a, z0c, z0d, z0e, z0p, z0q, z0s, z0t, z0u, z0v, z0w, z0z, z10, z11, z13, z16, z1a, z1e, z1f, z1i, z1m, z1v, z1w, z1x, z2c, z2o, z2t, z2w, z2x, z2y, z33, z34, z3b, z3p, z3q, z3v, z3w, z44, z45, z46, z49, z4b, z4e, z4f, z4g, z4h, z4i, z4j, z4k, z4l, z4m, z4n, z4o, z4p, z4q, z4r, z50, z51, z53, z5a, z5c, z5f, z72, z86, Nat.reduceAdd, ↓reduceIte, Hp.cell, Hp.wr, tFieldAx113x1, tPartx111, tRowx111, tSizex113, mdV, g0, ne_f n0, ne_f0 n0, lt_t n0, lt_t0 n0, ne_f n1, ne_f0 n1, lt_t n1, lt_t0 n1, ne_f n2, ne_f0 n2, lt_t n2, lt_t0 n2, q0, he, ow1, ow2]
  rw [← eE2] at hr2
  generalize hE : (actS D n true).1 = E at *
  rw [← eE1] at hr1
  refine ex_any (Al k _) (Al.ex (copy_c (P := Try.prog) (t := 111) (tx := 111) (e := R167) (q := p) (ys := E.2.1) (b := k1.size) flatRow tRowMR textMR rfl (by decide) ((Rp.slice R167).mono hr2 (fun _ h => h) id (Keeps.fr (h := k) (by repeat (first | assumption | exact Keeps.refl _ | refine Keeps.push ?_ _ | refine Keeps.set ?_ (by first | omega | (simp only [Hp.size_push, Hp.size_setB]; omega)) _)) hp)) (by simp only [Hp.size_push, Hp.size_setB]; omega) (by simp (maxDischargeDepth := 16) only [z34, z4b, ↓reduceIte]) (by simp only [Hp.ro_push, Hp.ro_setB]; omega) (fun c hc => by have := hp c hc; simp only [Hp.size_push, Hp.size_setB]; omega) (fun hc => by have := hp _ hc; omega) (by omega) (by unfold capOpen; omega))) ?_
  rintro v9 k2 ⟨hk2, hr2', q, hq, hql, o9⟩
  simp only [Hp.size_push, Hp.ro_push, Hp.size_setB, Hp.ro_setB] at hq hr2'
  have s2 := hk2.size
  simp only [Hp.size_push, Hp.size_setB] at s2
  have z0 := (hk2.get k.size (by simp only [Hp.size_push, Hp.size_setB]; omega)).trans ((get_push_ne (by simp only [Hp.size_setB]; omega)).trans get_set_self)
  have z1 := ((hk2.get (k.size + 1) (by simp only [Hp.size_push, Hp.size_setB]; omega)).trans ((get_push_ne (by simp only [Hp.size_setB]; omega)).trans (get_set_ne (by omega)))).trans g1
  have z2 := ((hk2.get (k.size + 2) (by simp only [Hp.size_push, Hp.size_setB]; omega)).trans ((get_push_ne (by simp only [Hp.size_setB]; omega)).trans (get_set_ne (by omega)))).trans g2
  have kk2 : Keeps k k2 := Keeps.trans (by repeat (first | assumption | exact Keeps.refl _ | refine Keeps.push ?_ _ | refine Keeps.set ?_ (by first | omega | (simp only [Hp.size_push, Hp.size_setB]; omega)) _)) hk2
  obtain ⟨c9, rfl⟩ := o9.form_some
  have rr2 : k2.ro = k.ro := by omega
  have m0 : k.size < k2.size := by omega
  have m1 : k.size + 1 < k2.size := by omega
  have m2 : k.size + 2 < k2.size := by omega
  have p0 : (k2.ro ≤ k.size) = True := by rw [rr2]; exact r0
  have p1 : ∀ j, (k2.ro ≤ k.size + j) = True := fun j => by rw [rr2]; exact r1 j
  clear hk2 g0 g1 g2
  have hqk : k.size + 3 ≤ q := by omega
  have ne0 : (k.size = q) = False := by simp; omega
  have ne1 : (k.size + 1 = q) = False := by simp; omega
  have ne2 : (k.size + 2 = q) = False := by simp; omega
  have hput := putS_wf (i := (n : Int)) x wE (by rw [eE1]; omega)
  simp (maxDischargeDepth := 16) only [z08, z09, z0d, z0e, z0p, z0q, z0s, z0t, z0v, z0w, z0z, z10, z11, z1p, z1r, z3b, z4e, z4f, z4g, z4h, z4i, evalC_block, tLenx111]
  refine loop_rule (Al k _) (fun m a h => ∃ j : Nat, m = E.2.1.length - j ∧ j ≤ E.2.1.length ∧ h = k2 ∧ idxF n E.2.1 0 = idxF n (E.2.1.drop j) j ∧
    a.tmps.size = 62 ∧ a.defers = [] ∧ a.tmps.getD 1 undef = .int .i64 (n : Int) ∧ a.tmps.getD 3 undef = .pointer (some ⟨k.size, 0, none⟩) ∧ a.tmps.getD 5 undef = .pointer (some ⟨k.size + 1, 0, none⟩) ∧ a.tmps.getD 6 undef = .pointer (some ⟨k.size + 2, 0, none⟩) ∧ a.tmps.getD 9 undef = .slice (some ⟨q, 0, none⟩) E.2.1.length c9 ∧ a.tmps.getD 26 undef = .int .i64 (E.2.1.length : Int) ∧ a.tmps.getD 27 undef = .int .i64 (j : Int)) ?_ _ E.2.1.length _ _ ?_ ?_
  · intro m n' a h hI' ih
    obtain ⟨j, hm, hi, rfl, hx, hxs, hxd, l1, l3, l5, l6, l9, l26, l27⟩ := hI'
    obtain ⟨g, rfl⟩ : ∃ g : Nat → Value, a = { tmps := #[g 0, .int .i64 (n : Int), g 2, .pointer (some ⟨k.size, 0, none⟩), g 4, .pointer (some ⟨k.size + 1, 0, none⟩), .pointer (some ⟨k.size + 2, 0, none⟩), g 7, g 8, .slice (some ⟨q, 0, none⟩) E.2.1.length c9, g 10, g 11, g 12, g 13, g 14, g 15, g 16, g 17, g 18, g 19, g 20, g 21, g 22, g 23, g 24, g 25, .int .i64 (E.2.1.length : Int), .int .i64 (j : Int), g 28, g 29, g 30, g 31, g 32, g 33, g 34, g 35, g 36, g 37, g 38, g 39, g 40, g 41, g 42, g 43, g 44, g 45, g 46, g 47, g 48, g 49, g 50, g 51, g 52, g 53, g 54, g 55, g 56, g 57, g 58, g 59, g 60, g 61], defers := [] } := ⟨fun k => a.tmps.getD k undef, (act_eta hxs hxd).trans (by simp only [unrollL, Nat.reduceAdd, Nat.zero_add, l1, l3, l5, l6, l9, l26, l27])⟩; clear hxs hxd l1 l3 l5 l6 l9 l26 l27
    by_cases hlt : j < E.2.1.length
    · have hlt' := lt_cast hlt
      obtain ⟨q1, q2, q3⟩ := dec_meas hlt hm
      obtain ⟨y, hy⟩ : ∃ y, E.2.1[j]? = some y := ⟨_, List.getElem?_eq_getElem hlt⟩
      obtain ⟨bq, off2, _, cells2, owe, part2, ee, hb2, hg2, -, hp2, hle2, hex2, hcell⟩ := elem_at (s := 65) o9.rp hy rfl (by decide)
      cases ee
      obtain ⟨l', rfl, hx1, rfl, hfz⟩ := R167_inv hp2
      cases hb2
      have h1 := hcell 0 (by omega)
      simp only [Nat.zero_add, Nat.add_zero, List.singleton_append, List.getElem?_cons_zero] at h1
      have hii : (0 ≤ (j : Int)) = True := by simp
      have w3 := i64_succ (i := j) (by omega)
      have hd : E.2.1.drop j = y :: E.2.1.drop (j + 1) := by rw [List.drop_eq_getElem_cons hlt]; congr 1; rw [List.getElem?_eq_getElem hlt] at hy; exact Option.some.inj hy
      by_cases hys : y.1 = (n : Int)
      · have hidx : idxF n E.2.1 0 = (j : Int) := by rw [hx, hd, idxF, if_pos hys]
        have eput : putS E n x = (E.1, E.2.1.set j ((n : Int), x), E.2.2) := by unfold putS; rw [hidx, if_pos (by simp)]; simp
        have rq : (h.ro ≤ q) = True := by simp; omega
        obtain ⟨cx, cells9, hvx, gq, hle, hset⟩ := o9.setIn hy (s := 65) (j := 1) (d := x) (y := ((n : Int), x)) rfl (by omega) (fun c hc => (hf.mem c hc).1) (by
          intro part hpl hpr
          have : part.drop (1 + x.length) = [] := List.drop_eq_nil_of_le (by omega)
          rw [this, List.append_nil]
          obtain ⟨l1, rfl, hl1, rfl, -⟩ := R167_inv hpr
          rw [show ([Value.int IntKind.i64 y.1] ++ y.2).take 1 = [Value.int IntKind.i64 y.1] from rfl, hys]
          exact R167_mk (x := ((n : Int), x)) hi64 ⟨rfl, hf⟩)
        obtain ⟨rfl, rfl⟩ : cells2 = cells9 ∧ owe = true := by
          have e := hg2.symm.trans gq
          simp only [Option.some.injEq, Blk.cells.injEq] at e
          exact e
        simp (maxDischargeDepth := 16) only [z04, z05, z08, z09, z0a, z0b, z0d, z0e, z0f, z0i, z0l, z0o, z0p, z0q, z0s, z0t, z0u, z0v, z0w, z0z, z10, z11, z13, z16, z18, z1e, z1f, z1v, z1w, z1x, z1z, z2b, z2d, z2o, z2q, z2u, z2w, z2x, z2y, z33, z35, z37, z3a, z3b, z3d, z3f, z3g, z3p, z3q, z3s, z3v, z3w, z3x, z3y, z3z, z41, z43, z44, z45, z46, z49, z4d, z4e, z4f, z4g, z4h, z4i, z4p, z4q, z4r, z4z, z50, z51, z52, z53, z54, z5a, z5f, z72, evalC_block, Nat.reduceEqDiff, Nat.reduceLeDiff, Nat.reduceAdd, Nat.reduceSub, ↓reduceIte, Hp.cell, Hp.row, Hp.wr, tElemx111, tFieldAx113x1, tFieldAx167x0, tFieldAx167x1, tPartx3, tPartx98, tPartx113, tSizex98, tSizex111, tSizex113, hlt', hii, hg2, ne_f hql, ne_f0 hql, lt_t hql, lt_t0 hql, h1, Int.toNat_natCast, eq_true hys, z0, z1, z2, ne_f m0, ne_f0 m0, lt_t m0, lt_t0 m0, ne_f m1, ne_f0 m1, lt_t m1, lt_t0 m1, ne_f m2, ne_f0 m2, lt_t m2, lt_t0 m2, p0, p1, hx64, o1, tk, rq, hle, ow1, ne0, ne2]
        refine Al.done ⟨by simp only [Hp.size_setB]; omega, fun c hc => by rw [get_set_ne (by omega), get_set_ne (by omega), get_set_ne (by omega)]; exact kk2.get c hc⟩ (by simp only [Hp.ro_setB]; omega) ⟨_, rfl, ?_⟩
        rw [eput]
        refine md_bounds (D := (E.1, E.2.1.set j ((n : Int), x), E.2.2)) (by rw [← eput]; exact hput) (R110.mono hr1 (fun c hc => .inl hc) id (Keeps.fr ⟨by simp only [Hp.size_setB]; omega, fun c hc => by rw [get_set_ne (by omega), get_set_ne (by omega), get_set_ne (by omega)]; exact kk2.get c hc⟩ hp)) ?_
        exact ownFr (hset _ (by simp only [Hp.size_setB]; omega) ((get_set_ne (by omega)).trans ((get_set_ne (by omega)).trans get_set_self))) (fun c hc => by cases hc; exact Or.inr ⟨by omega, by simp only [Hp.size_setB]; omega⟩)
      · simp (maxDischargeDepth := 16) only [z04, z08, z09, z0a, z0b, z0c, z0d, z0e, z0h, z0k, z0p, z0q, z0s, z0t, z0v, z0w, z0z, z10, z11, z13, z16, z18, z1e, z1v, z1z, z24, z2b, z2d, z2u, z2w, z2x, z3b, z4e, z4f, z4g, z4h, z4i, z50, z51, z53, z54, z5a, z5b, evalC_block, Hp.cell, tElemx111, tFieldAx167x0, tPartx3, hlt', hii, hg2, ne_f hql, ne_f0 hql, lt_t hql, lt_t0 hql, h1, Int.toNat_natCast, hys, w3]
        exact ih (m - 1) _ _ q1 ⟨j + 1, q2, q3, rfl, by rw [hx, hd, idxF, if_neg hys], rfl, rfl, rfl, rfl, rfl, rfl, rfl, rfl, rfl⟩
    · have hlt' := nlt_cast hlt
      have hidx : idxF n E.2.1 0 = -1 := by rw [hx, List.drop_eq_nil_of_le (by omega)]; rfl
      by_cases h8 : E.2.1.length = 8
      · have h8' : ((E.2.1.length : Int) = 8) = True := by simp; omega
        simp (maxDischargeDepth := 16) only [z06, z08, z09, z0a, z0b, z0c, z0d, z0e, z0g, z0j, z0m, z0p, z0q, z0s, z0t, z0v, z0w, z0x, z0z, z10, z13, z1e, z1i, z1l, z1p, z1r, z1v, z2b, z2d, z2n, z2x, z3b, z3h, z3x, z3y, z3z, z41, z43, z46, z4e, z4f, z4g, z4h, z4i, z4j, z4k, z4l, z4p, z4q, z4r, z4s, z4u, z4v, z4z, z50, z53, z5a, z5b, z7d, z88, Nat.reduceLeDiff, Nat.reduceAdd, Nat.reduceSub, ↓reduceIte, Hp.row, hasBx108, tLenx111, tPartx113, tRowx92, hlt', h8', z0, ne_f m0, ne_f0 m0, lt_t m0, lt_t0 m0, ne_f m1, ne_f0 m1, lt_t m1, lt_t0 m1, ne_f m2, ne_f0 m2, lt_t m2, lt_t0 m2]
        have kp : Keeps k (h.push (some (.cells #[.bool true] true))) := kk2.trans (by repeat (first | assumption | exact Keeps.refl _ | refine Keeps.push ?_ _ | refine Keeps.set ?_ (by first | omega | (simp only [Hp.size_push, Hp.size_setB]; omega)) _))
        refine ex_any (Al k _) (Al.ex (run_rDownO (N := N) (D := E) (k := h.push (some (.cells #[.bool true] true))) (p := grow p k (h.push (some (.cells #[.bool true] true)))) J (by omega) (by simp only [Hp.size_push, Hp.ro_push]; omega) (hmd _ kp) (fun c hc => by
          rcases hc with hc | hc
          · have := hp c hc; simp only [Hp.size_push]; omega
          · exact hc.2) wE (ownFr (ownLit (h := h.push (some (.cells #[.bool true] true))) (c := h.size) (by simp (maxDischargeDepth := 16) only [z34, ↓reduceIte]) (by simp only [Hp.size_push]; omega)) (fun c hc => by cases hc; exact .inr ⟨by omega, by simp only [Hp.size_push]; omega⟩)))) ?_
        rintro _ h4 ⟨hk4, hr4, w1, w2, q5, q6, rfl, o5, o6, hq5, hq6, -⟩
        have s4 := hk4.size
        simp only [Hp.size_push] at s4 hq5 hq6
        simp only [Hp.ro_push] at hr4
        have y0 := (hk4.get k.size (by simp only [Hp.size_push]; omega)).trans ((get_push_ne (by omega)).trans z0)
        have y1 := (hk4.get (k.size + 1) (by simp only [Hp.size_push]; omega)).trans ((get_push_ne (by omega)).trans z1)
        have y2 := (hk4.get (k.size + 2) (by simp only [Hp.size_push]; omega)).trans ((get_push_ne (by omega)).trans z2)
        have kk4 : Keeps k h4 := kp.trans hk4
        have t0 : k.size < h4.size := by omega
        have t1 : k.size + 1 < h4.size := by omega
        have t2 : k.size + 2 < h4.size := by omega
        have u0 : (h4.ro ≤ k.size) = True := by simp; omega
        have u1 : ∀ j, (h4.ro ≤ k.size + j) = True := fun j => by simp; omega
        have oo5 : oneC w1 = true := (Rp.slice R98).rone o5.rp w1 (List.mem_singleton.2 rfl)
        have oo6 : oneC w2 = true := (Rp.slice R167).rone o6.rp w2 (List.mem_singleton.2 rfl)
        have rl : (downD E [true]).2.1.length ≤ 8 := by
          have e := congrArg (fun z => z.2.1.length) (putS_full (x := x) hidx h8)
          have e2 := hput.rows
          simp only [List.length_append, List.length_cons, List.length_nil] at e
          omega
        simp (maxDischargeDepth := 16) only [z08, z09, z0d, z0e, z0p, z0q, z0s, z0t, z0u, z0v, z0z, z10, z11, z16, z1b, z1e, z1f, z1i, z1m, z1v, z1w, z1x, z2m, z2o, z2w, z2x, z2y, z33, z35, z37, z39, z3b, z3p, z3q, z3v, z3w, z3x, z3y, z3z, z44, z45, z46, z49, z4b, z4e, z4f, z4g, z4h, z4i, z4j, z4k, z4l, z4m, z4n, z4o, z4p, z4q, z4r, z4z, z50, z51, z53, z5f, z72, z7d, z80, z81, z82, z83, z88, Nat.reduceLeDiff, Nat.reduceAdd, Nat.reduceSub, ↓reduceIte, Hp.cell, Hp.row, Hp.wr, tBuildFx167x0, tBuildFx167x1, tBuildOkx167, tFieldAx113x1, tPartx98, tPartx111, tRowx111, tSizex113, tZerox167, y0, y1, ne_f t0, ne_f0 t0, lt_t t0, lt_t0 t0, ne_f t1, ne_f0 t1, lt_t t1, lt_t0 t1, ne_f t2, ne_f0 t2, lt_t t2, lt_t0 t2, u0, hx64, tk, oo5, oo6, splice_tail]
        refine ex_any (Al k _) (OwnC.append_ex (P := Try.prog) (k := (h4.setB k.size (some (.cells #[w1, w2, .int .i64 E.2.2.1, .int .i64 E.2.2.2.1, .bool E.2.2.2.2.1, .int .i64 E.2.2.2.2.2] true))).push (some (.cells (Value.int .i64 (n : Int) :: x).toArray true))) (t := 111) (tx := 111) (e := R167) (xs := (downD E [true]).2.1) (x := ((n : Int), x)) (b? := q6) (lit := h4.size) (cs := (Value.int .i64 (n : Int) :: x).toArray) tRowMR textMR rfl (by omega) (o6.mono (by simp only [Hp.size_push, Hp.size_setB]; omega) (fun c hc => by have := hq6 c hc; have := (show c < h4.size by subst hc; exact o6.lt); rw [get_push_ne (by simp only [Hp.size_setB]; omega), get_set_ne (by omega)])) (fun c hc => by simp only [Hp.ro_push, Hp.ro_setB]; have := hq6 c hc; omega) (by simp (maxDischargeDepth := 16) only [z34, z4b, ↓reduceIte]) (R167_mk (x := ((n : Int), x)) hi64 ⟨rfl, hf⟩) (by
          intro c hc
          rcases List.mem_cons.1 (by simpa using hc : c ∈ Value.int .i64 (n : Int) :: x) with rfl | hc
          · exact flatB_int
          · exact (hf.mem c hc).1) (by omega) (by unfold capOpen; omega)) ?_
        rintro v7 h3 ⟨b', ho, hbs, r3, g3⟩
        simp only [Hp.size_push, Hp.size_setB, Hp.ro_push, Hp.ro_setB] at hbs r3 g3
        have s3 : h4.size + 1 ≤ h3.size := by omega
        have hb' : k.size + 3 ≤ b' := by
          rcases hbs with ⟨e, _⟩ | ⟨e, _⟩
          · have := hq6 b' e; omega
          · omega
        have fr : ∀ c, c < h4.size → c ≠ k.size → (∀ d, q6 = some d → c ≠ d) → h3.get c = h4.get c := fun c hc hn hd => by rw [g3 c (by omega) (fun e => hd c e rfl), get_push_ne (by simp only [Hp.size_setB]; omega), get_set_ne (by omega)]
        have x0 : h3.get k.size = some (.cells #[w1, w2, .int .i64 E.2.2.1, .int .i64 E.2.2.2.1, .bool E.2.2.2.2.1, .int .i64 E.2.2.2.2.2] true) := by rw [g3 _ (by omega) (fun e => by have := hq6 _ e; omega), get_push_ne (by simp only [Hp.size_setB]; omega), get_set_self]
        have x2 : h3.get (k.size + 2) = _ := (fr _ t2 (by omega) (fun d hd => by have := hq6 d hd; omega)).trans y2
        obtain ⟨a7, c7, rfl⟩ := ho.form
        have l0 : k.size < h3.size := by omega
        have l2 : k.size + 2 < h3.size := by omega
        have i0 : (h3.ro ≤ k.size) = True := by simp; omega
        have i2 : (h3.ro ≤ k.size + 2) = True := by simp; omega
        simp (maxDischargeDepth := 16) only [z05, z08, z09, z0d, z0e, z0o, z0p, z0q, z0s, z0t, z0u, z0v, z0w, z0z, z11, z16, z1e, z1f, z1v, z1w, z1x, z2o, z2q, z2w, z2x, z2y, z33, z35, z37, z3b, z3d, z3f, z3g, z3p, z3q, z3s, z3v, z3w, z3x, z3y, z3z, z41, z43, z44, z45, z46, z49, z4d, z4e, z4f, z4g, z4h, z4i, z4p, z4q, z4r, z4z, z50, z51, z52, z53, z5f, z72, Nat.reduceEqDiff, Nat.reduceLeDiff, Nat.reduceAdd, Nat.reduceSub, ↓reduceIte, Hp.row, Hp.wr, tFieldAx113x1, tPartx113, tSizex111, tSizex113, x0, x2, ne_f l0, ne_f0 l0, lt_t l0, lt_t0 l0, ne_f l2, ne_f0 l2, lt_t l2, lt_t0 l2, i0, i2, oo5]
        have fin : ∀ c, c < k.size ∨ k.size + 3 ≤ c → ∀ u w, ((h3.setB k.size u).setB (k.size + 2) w).get c = h3.get c := fun c hc u w => by rw [get_set_ne (by omega), get_set_ne (by omega)]
        refine Al.done ⟨by simp only [Hp.size_setB]; omega, fun c hc => by rw [fin c (.inl hc), fr c (by omega) (by omega) (fun d hd => by have := hq6 d hd; omega)]; exact kk4.get c hc⟩ (by simp only [Hp.ro_setB]; omega) ⟨_, rfl, ?_⟩
        have eput := putS_full (x := x) hidx h8
        rw [eput]
        refine md_bounds (D := ((downD E [true]).1, (downD E [true]).2.1 ++ [((n : Int), x)], E.2.2)) (by rw [← eput]; exact hput) ?_ ?_
        · exact ownFr (o5.mono (by simp only [Hp.size_setB]; omega) (fun c hc => by
            have h1 := hq5 c hc
            have h2 : c < h4.size := by subst hc; exact o5.lt
            rw [fin c (.inr (by omega)), fr c h2 (by omega) (fun d hd e => h1.2 (by rw [hd, e]))])) (fun c hc => .inr ⟨by have := hq5 c hc; omega, by have : c < h4.size := (by subst hc; exact o5.lt); simp only [Hp.size_setB]; omega⟩)
        · exact ownFr (ho.mono (by simp only [Hp.size_setB]; omega) (fun c hc => by cases hc; exact fin _ (.inr hb') _ _)) (fun c hc => by cases hc; exact .inr ⟨by omega, by have := ho.lt; simp only [Hp.size_setB]; omega⟩)
      · have h8' : ((E.2.1.length : Int) = 8) = False := by simp; omega
        simp (maxDischargeDepth := 16) only [z04, z06, z08, z09, z0a, z0c, z0d, z0e, z0g, z0j, z0m, z0p, z0q, z0s, z0t, z0v, z0w, z0z, z10, z13, z1b, z1e, z1i, z1m, z1p, z1r, z1v, z2b, z2d, z2m, z2o, z2x, z3b, z3v, z3w, z3x, z3y, z3z, z46, z49, z4e, z4f, z4g, z4h, z4i, z4j, z4k, z4l, z4p, z4q, z4r, z4z, z50, z51, z53, z5b, z72, z7d, z80, z81, z82, z83, z88, Nat.reduceLeDiff, Nat.reduceAdd, Nat.reduceSub, ↓reduceIte, Hp.row, tBuildFx167x0, tBuildFx167x1, tBuildOkx167, tLenx111, tPartx98, tRowx111, tZerox167, hlt', h8', z1, ne_f m0, ne_f0 m0, lt_t m0, lt_t0 m0, ne_f m1, ne_f0 m1, lt_t m1, lt_t0 m1, ne_f m2, ne_f0 m2, lt_t m2, lt_t0 m2, hx64, tk, splice_tail]
        refine ex_any (Al k _) (OwnC.append_ex (P := Try.prog) (k := h.push (some (.cells (Value.int .i64 (n : Int) :: x).toArray true))) (t := 111) (tx := 111) (e := R167) (xs := E.2.1) (x := ((n : Int), x)) (b? := some q) (lit := h.size) (cs := (Value.int .i64 (n : Int) :: x).toArray) tRowMR textMR rfl (by omega) (o9.mono (by simp only [Hp.size_push]; omega) (fun c hc => by cases hc; exact get_push_ne (by omega))) (fun c hc => by cases hc; simp only [Hp.ro_push]; omega) (by simp (maxDischargeDepth := 16) only [z34, ↓reduceIte]) (R167_mk (x := ((n : Int), x)) hi64 ⟨rfl, hf⟩) (by
          intro c hc
          rcases List.mem_cons.1 (by simpa using hc : c ∈ Value.int .i64 (n : Int) :: x) with rfl | hc
          · exact flatB_int
          · exact (hf.mem c hc).1) (by omega) (by unfold capOpen; omega)) ?_
        rintro v7 h3 ⟨b', ho, hbs, r3, g3⟩
        simp only [Hp.size_push, Hp.ro_push] at hbs r3 g3
        have s3 : h.size + 1 ≤ h3.size := by omega
        have hb' : k.size + 3 ≤ b' := by
          rcases hbs with ⟨e, _⟩ | ⟨e, _⟩
          · cases e; omega
          · omega
        have fr : ∀ c, c < h.size → c ≠ q → h3.get c = h.get c := fun c hc hn => by rw [g3 c (by omega) (fun e => hn (by cases e; rfl)), get_push_ne (by omega)]
        have x0 := (fr k.size m0 (by omega)).trans z0
        have x2 := (fr (k.size + 2) m2 (by omega)).trans z2
        obtain ⟨a7, c7, rfl⟩ := ho.form
        have l0 : k.size < h3.size := by omega
        have l2 : k.size + 2 < h3.size := by omega
        have i0 : (h3.ro ≤ k.size) = True := by simp; omega
        have i2 : (h3.ro ≤ k.size + 2) = True := by simp; omega
        simp (maxDischargeDepth := 16) only [z05, z08, z09, z0d, z0e, z0o, z0p, z0q, z0s, z0t, z0u, z0v, z0w, z0z, z11, z16, z1e, z1f, z1v, z1w, z1x, z2o, z2q, z2w, z2x, z2y, z33, z35, z37, z3b, z3d, z3f, z3g, z3p, z3q, z3s, z3v, z3w, z3x, z3y, z3z, z41, z43, z44, z45, z46, z49, z4d, z4e, z4f, z4g, z4h, z4i, z4p, z4q, z4r, z4z, z50, z51, z52, z53, z5f, z72, Nat.reduceEqDiff, Nat.reduceLeDiff, Nat.reduceAdd, Nat.reduceSub, ↓reduceIte, Hp.row, Hp.wr, tFieldAx113x1, tPartx113, tSizex111, tSizex113, x0, x2, ne_f l0, ne_f0 l0, lt_t l0, lt_t0 l0, ne_f l2, ne_f0 l2, lt_t l2, lt_t0 l2, i0, i2, ow1]
        have fin : ∀ c, c < k.size ∨ k.size + 3 ≤ c → ∀ u w, ((h3.setB k.size u).setB (k.size + 2) w).get c = h3.get c := fun c hc u w => by rw [get_set_ne (by omega), get_set_ne (by omega)]
        have kf : ∀ u w, Keeps k ((h3.setB k.size u).setB (k.size + 2) w) := fun u w => ⟨by simp only [Hp.size_setB]; omega, fun c hc => by rw [fin c (.inl hc), fr c (by omega) (by omega)]; exact kk2.get c hc⟩
        refine Al.done (kf _ _) (by simp only [Hp.ro_setB]; omega) ⟨_, rfl, ?_⟩
        have eput := putS_add (x := x) hidx h8
        rw [eput]
        refine md_bounds (D := (E.1, E.2.1 ++ [((n : Int), x)], E.2.2)) (by rw [← eput]; exact hput) (R110.mono hr1 (fun c hc => .inl hc) id ((kf _ _).fr hp)) ?_
        exact ownFr (ho.mono (by simp only [Hp.size_setB]; omega) (fun c hc => by cases hc; exact fin _ (.inr hb') _ _)) (fun c hc => by cases hc; exact .inr ⟨by omega, by have := ho.lt; simp only [Hp.size_setB]; omega⟩)
  · omega
  · exact ⟨0, by omega, by omega, rfl, by simp, rfl, rfl, rfl, rfl, rfl, rfl, rfl, rfl, rfl⟩
end
end Go.Abs.B1
