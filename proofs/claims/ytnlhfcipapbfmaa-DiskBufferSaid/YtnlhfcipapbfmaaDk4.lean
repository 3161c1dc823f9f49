/- The disk: counts, acts. -/
import Derived.Test.YtnlhfcipapbfmaaDk3
namespace Go.Abs.B1
open Go.Proofs
set_option maxRecDepth 10000
set_option maxHeartbeats 4000000
set_option linter.all false
def dn (x : Int) : Int := if 0 ≤ x then IntKind.i64.wrap (x - 1) else x
/-- What an act makes of a disk, and what comes of that. -/
def actS (D : DV) (i : Int) (w : Bool) : DV × Int :=
  if D.2.2.2.2.1 = true then (D, 9) else
  if i < 0 ∨ (D.1.length : Int) ≤ i then (D, 2) else
  if w = true ∧ D.2.2.1 = 0 then ((D.1, D.2.1, D.2.2.1, dn D.2.2.2.1, true, D.2.2.2.2.2), 9) else
  if D.2.2.2.1 = 0 then ((D.1, D.2.1, D.2.2.1, dn D.2.2.2.1, D.2.2.2.2.1, D.2.2.2.2.2), 8) else
  ((D.1, D.2.1, if w = true then dn D.2.2.1 else D.2.2.1, dn D.2.2.2.1, D.2.2.2.2.1, IntKind.i64.wrap (D.2.2.2.2.2 + 1)), 0)
theorem i64_minmax : IntKind.i64.min = -9223372036854775808 ∧ IntKind.i64.max = 9223372036854775807 := by decide
theorem wrap_ok (x : Int) : i64ok (IntKind.i64.wrap x) := by
  unfold i64ok
  rw [i64_minmax.1, i64_minmax.2, wrapI64]
  split <;> omega
theorem dn_ok {x : Int} (h : i64ok x) : i64ok (dn x) := by
  unfold dn; split
  · exact wrap_ok _
  · exact h
theorem actS_keeps (D : DV) (i : Int) (w : Bool) : (actS D i w).1.1 = D.1 ∧ (actS D i w).1.2.1 = D.2.1 := by
  unfold actS
  repeat' split
  all_goals exact ⟨rfl, rfl⟩
theorem actS_wf {D : DV} (i : Int) (w : Bool) (h : WF D) : WF (actS D i w).1 := by
  obtain ⟨h1, h2, h3, h0, h4, h5, h6⟩ := h
  unfold actS
  repeat' split
  all_goals first | exact ⟨h1, h2, h3, h0, h4, h5, h6⟩ | exact ⟨h1, h2, h3, h0, h4, dn_ok h5, h6⟩ | exact ⟨h1, h2, h3, h0, dn_ok h4, dn_ok h5, wrap_ok _⟩ | exact ⟨h1, h2, h3, h0, h4, dn_ok h5, wrap_ok _⟩
section
variable {I : Intr} {N : Nat} {k : Hp} {S : Nat → Prop} {b : Nat} {D : DV}
theorem run_burns (h1 : I 109 = none) (hN : 0 < N) {c o : Nat} {cs : List Value} {x : Int} (hg : k.get c = some (.cells cs.toArray true)) (hx : cs[o]? = some (.int .i64 x)) (hro : k.ro ≤ c) (hc : c < k.size) :
    evalV Try.prog I N (.fn 109) #[.pointer (some ⟨c, o, none⟩)] k = some (.bool (decide (x = 0)), if 0 ≤ x then k.setB c (some (.cells (cs.set o (.int .i64 (IntKind.i64.wrap (x - 1)))).toArray true)) else k) := by
  obtain ⟨N, rfl⟩ : ∃ n, N = n + 1 := ⟨N - 1, by omega⟩
  have ho := (List.getElem?_eq_some_iff.1 hx).1
  have hro' : (k.ro ≤ c) = True := by simp [hro]
  have ho' : o + 1 ≤ cs.length := ho
  rw [evalV_call (P := Try.prog) (intr := I) (f := 109) (m := 16) (rs := #[.tmp 2]) h1 Try.func109 rfl rfl rfl]
  by_cases q : 0 ≤ x
  · simp (maxDischargeDepth := 16) only [z05, z08, z09, z0a, z0b, z0d, z0e, z0o, z0p, z0q, z0s, z0t, z0u, z0v, z0w, z0z, z10, z11, z13, z1c, z1e, z1f, z1v, z1w, z1x, z21, z25, z2b, z2g, z2m, z2x, z2y, z3b, z3c, z3f, z3p, z3v, z3w, z44, z45, z49, z4e, z4f, z4g, z4h, z4i, z4m, z4p, z4q, z4r, z4s, z4t, z4u, z4w, z4x, z4y, z4z, z53, z5a, z5f, z72, Nat.reduceSub, ↓reduceIte, Hp.cell, Hp.wr, tPartx146, tSizex146, hg, hx, ne_f hc, ne_f0 hc, lt_t hc, lt_t0 hc, q, hro', ho']
  · simp (maxDischargeDepth := 16) only [z04, z05, z08, z09, z0a, z0c, z0d, z0e, z0o, z0p, z0q, z0s, z0t, z0v, z0w, z0z, z10, z11, z13, z1c, z1e, z1v, z21, z2b, z2g, z2x, z3b, z3c, z3f, z4e, z4f, z4g, z4h, z4i, z4m, z4p, z4q, z4r, z4s, z4t, z4u, z4w, z4x, z4y, z4z, z53, z5b, Nat.reduceSub, ↓reduceIte, Hp.cell, tPartx146, hg, hx, ne_f hc, ne_f0 hc, lt_t hc, lt_t0 hc, q]
theorem run_cset (h1 : I 104 = none) (hN : 0 < N) {c o : Nat} {cs : List Value} {x : Int} {y : Value} (hg : k.get c = some (.cells cs.toArray true)) (hx : cs[o]? = some y) (hro : k.ro ≤ c) (hc : c < k.size) :
    evalV Try.prog I N (.fn 104) #[.pointer (some ⟨c, o, none⟩), .int .i64 x] k = some (.tuple #[], k.setB c (some (.cells (cs.set o (.int .i64 (max x (-1)))).toArray true))) := by
  obtain ⟨N, rfl⟩ : ∃ n, N = n + 1 := ⟨N - 1, by omega⟩
  have ho := (List.getElem?_eq_some_iff.1 hx).1
  have hro' : (k.ro ≤ c) = True := by simp [hro]
  have ho' : o + 1 ≤ cs.length := ho
  rw [evalV_call (P := Try.prog) (intr := I) (f := 104) (m := 8) (rs := #[]) h1 Try.func104 rfl rfl rfl]
  simp (maxDischargeDepth := 16) only [z08, z0d, z0n, z0p, z0q, z0s, z0t, z0u, z0v, z0w, z0z, z10, z1c, z1f, z1t, z1w, z1x, z21, z2j, z2m, z2y, z3b, z3e, z3p, z3v, z3w, z44, z45, z49, z4e, z4f, z4g, z4h, z4i, z4j, z4k, z4l, z4p, z4q, z4r, z4s, z4t, z4u, z4w, z4x, z4y, z53, z5f, z72, Nat.reduceAdd, Nat.reduceSub, ↓reduceIte, Hp.wr, tSizex146, hg, ne_f hc, ne_f0 hc, lt_t hc, lt_t0 hc, hro', ho']
theorem run_act (h1 : I 85 = none) (h2 : I 103 = none) (h3 : I 109 = none) (hN : 10 < N) (d : DiskAt S k b D) {g : FuncId} {cl : List Value} (hg : hasB Try.prog g = true) {i : Int} {w : Bool} {Post : Hp → Prop}
    (hgo : ∀ M, N = M + 1 → (actS D i w).2 = 0 → ∀ k2, DiskAt S k2 b (actS D i w).1 → Chg S k k2 → Ex (fun _ k3 => Post k3) (evalV Try.prog I M (.fn g) cl.toArray k2)) :
    Ex (fun v k' => v = .int .i64 (actS D i w).2 ∧ ((actS D i w).2 = 0 → Post k') ∧ ((actS D i w).2 ≠ 0 → DiskAt S k' b (actS D i w).1 ∧ Chg S k k')) (evalV Try.prog I N (.fn 85) #[.pointer (some ⟨b, 0, none⟩), .int .i64 i, .bool w, .func (.func g) #[] cl.toArray] k) := by
  obtain ⟨N, rfl⟩ : ∃ n, N = n + 1 := ⟨N - 1, by omega⟩
  replace hgo := hgo _ rfl
  obtain ⟨N, rfl⟩ : ∃ n, N = n + 1 := ⟨N - 1, by omega⟩
  have cp := run_power (N := N + 1) h2 (by omega) d
  have d0 := d
  have wf := actS_wf i w d.wf
  obtain ⟨e1, e2⟩ := actS_keeps D i w
  obtain ⟨pb, pc, bv, qb, g1, g2, a1, a2, a3, a4, a5, a6, a7, a8, a9, a10⟩ := d
  have hro : (k.ro ≤ b) = True := by simp [(a9 b a7).1]
  have b3 := run_burns (I := I) (N := N + 1) (o := 3) h3 (by omega) g1 rfl (a9 b a7).1 a3
  rw [evalV_call (P := Try.prog) (intr := I) (f := 85) (m := 57) (rs := #[.tmp 8]) h1 Try.func85 rfl rfl rfl]
  by_cases q1 : D.2.2.2.2.1 = true
  · have ea : actS D i w = (D, 9) := by unfold actS; rw [if_pos q1]
    simp only [eq_true q1, if_true] at cp
    simp (maxDischargeDepth := 16) only [z05, z08, z09, z0a, z0b, z0d, z0e, z0f, z0o, z0p, z0q, z0s, z0t, z0v, z0w, z0x, z0z, z10, z11, z13, z1l, z2c, z3b, z3c, z3f, z3h, z4e, z4f, z4g, z4h, z4i, z4j, z4k, z4l, z4p, z4q, z4r, z4s, z4t, z4u, z4v, z4w, z4x, z4y, z4z, z53, z5b, z5d, Nat.reduceAdd, Nat.reduceSub, ↓reduceIte, Int.reduceEq, hasBx103, cp]
    rw [ea]
    exact ⟨_, _, rfl, rfl, fun h => by simp at h, fun _ => ⟨d0, Chg.refl _⟩⟩
  simp only [q1, if_false] at cp
  by_cases q2 : i < 0
  · have ea : actS D i w = (D, 2) := by unfold actS; rw [if_neg q1, if_pos (.inl q2)]
    simp (maxDischargeDepth := 16) only [z04, z05, z08, z09, z0a, z0b, z0c, z0d, z0e, z0f, z0o, z0p, z0q, z0r, z0s, z0t, z0v, z0w, z0x, z0z, z10, z11, z12, z13, z1l, z1y, z2c, z2d, z3b, z3c, z3f, z3h, z3k, z4e, z4f, z4g, z4h, z4i, z4j, z4k, z4l, z4m, z4n, z4o, z4p, z4q, z4r, z4s, z4t, z4u, z4v, z4w, z4x, z4y, z4z, z52, z53, z59, z5a, z5c, Nat.reduceAdd, Nat.reduceSub, ↓reduceIte, yielded, hasBx103, cp, q2]
    rw [ea]
    exact ⟨_, _, rfl, rfl, fun h => by simp at h, fun _ => ⟨d0, Chg.refl _⟩⟩
  by_cases q3 : (D.1.length : Int) ≤ i
  · have ea : actS D i w = (D, 2) := by unfold actS; rw [if_neg q1, if_pos (.inr q3)]
    simp (maxDischargeDepth := 16) only [z04, z05, z08, z09, z0a, z0b, z0c, z0d, z0e, z0f, z0o, z0p, z0q, z0r, z0s, z0t, z0v, z0w, z0x, z0z, z10, z11, z12, z13, z16, z1c, z1e, z1l, z1p, z1r, z1v, z1y, z21, z2c, z2d, z2g, z2w, z2x, z3b, z3c, z3f, z3h, z4e, z4f, z4g, z4h, z4i, z4j, z4k, z4l, z4m, z4n, z4o, z4p, z4q, z4r, z4s, z4t, z4u, z4v, z4w, z4x, z4y, z4z, z50, z51, z52, z53, z54, z59, z5a, z5b, z5c, z5e, Nat.reduceAdd, Nat.reduceSub, ↓reduceIte, yielded, Hp.cell, hasBx103, tFieldAx149x0, tLenx110, tPartx110, cp, q2, q3, g1]
    rw [ea]
    exact ⟨_, _, rfl, rfl, fun h => by simp at h, fun _ => ⟨d0, Chg.refl _⟩⟩
  have q23 : ¬ (i < 0 ∨ (D.1.length : Int) ≤ i) := by simp [q2, q3]
  have b2 := fun (k' : Hp) (f : Int) (hk : k'.get b = some (.cells #[.slice (some ⟨pb, 0, none⟩) D.1.length D.1.length, bv, .int .i64 D.2.2.1, .int .i64 f, .bool D.2.2.2.2.1, .int .i64 D.2.2.2.2.2] true)) (hr : k'.ro = k.ro) (hs : k'.size = k.size) => run_burns (I := I) (N := N + 1) (o := 2) (k := k') h3 (by omega) hk rfl (by rw [hr]; exact (a9 b a7).1) (by omega)
  obtain ⟨k1, hk1, s1, r1, g1', gn⟩ : ∃ k1, (if 0 ≤ D.2.2.2.1 then k.setB b (some (.cells ([.slice (some ⟨pb, 0, none⟩) D.1.length D.1.length, bv, .int .i64 D.2.2.1, .int .i64 D.2.2.2.1, .bool D.2.2.2.2.1, .int .i64 D.2.2.2.2.2].set 3 (.int .i64 (IntKind.i64.wrap (D.2.2.2.1 - 1)))).toArray true)) else k) = k1 ∧ k1.size = k.size ∧ k1.ro = k.ro ∧
      k1.get b = some (.cells #[.slice (some ⟨pb, 0, none⟩) D.1.length D.1.length, bv, .int .i64 D.2.2.1, .int .i64 (dn D.2.2.2.1), .bool D.2.2.2.2.1, .int .i64 D.2.2.2.2.2] true) ∧ ∀ c, c ≠ b → k1.get c = k.get c := by
    by_cases q : 0 ≤ D.2.2.2.1
    · exact ⟨_, if_pos q, rfl, rfl, by rw [get_set_self]; unfold dn; rw [if_pos q]; rfl, fun c hc => get_set_ne hc⟩
    · exact ⟨_, if_neg q, rfl, rfl, by rw [g1]; unfold dn; rw [if_neg q], fun c hc => rfl⟩
  rw [hk1] at b3
  have hro1 : (k1.ro ≤ b) = True := by rw [r1]; exact hro
  have a31 : b < k1.size := by omega
  have hc1 : Chg S k k1 := ⟨by omega, r1, fun c _ hs => gn c (fun e => hs (e ▸ a7))⟩
  by_cases q5 : w = true ∧ D.2.2.1 = 0
  · have ea : actS D i w = ((D.1, D.2.1, D.2.2.1, dn D.2.2.2.1, true, D.2.2.2.2.2), 9) := by unfold actS; rw [if_neg q1, if_neg q23, if_pos q5]
    obtain ⟨rfl, q6⟩ := q5
    rw [ea] at wf
    simp (maxDischargeDepth := 16) only [z04, z05, z08, z09, z0a, z0b, z0c, z0d, z0e, z0f, z0o, z0p, z0q, z0r, z0s, z0t, z0u, z0v, z0w, z0x, z0z, z10, z11, z12, z13, z16, z1c, z1e, z1f, z1l, z1p, z1r, z1v, z1w, z1x, z1y, z21, z2b, z2c, z2d, z2g, z2n, z2w, z2x, z2y, z3b, z3c, z3f, z3h, z3q, z3v, z3w, z44, z45, z49, z4e, z4f, z4g, z4h, z4i, z4j, z4k, z4l, z4m, z4n, z4o, z4p, z4q, z4r, z4s, z4t, z4u, z4v, z4w, z4x, z4y, z4z, z50, z51, z52, z53, z54, z59, z5a, z5b, z5c, z5e, z5f, z72, Nat.reduceLeDiff, Nat.reduceAdd, Nat.reduceSub, ↓reduceIte, yielded, Hp.cell, Hp.wr, hasBx103, hasBx109, tFieldAx149x0, tFieldAx149x2, tFieldAx149x3, tFieldAx149x4, tLenx110, tPartx110, tPartx146, tSizex4, cp, q2, q3, g1, b3, g1', eq_true q6, ne_f a31, ne_f0 a31, lt_t a31, lt_t0 a31, hro1]
    rw [ea]
    refine ⟨_, _, rfl, rfl, fun h => by simp at h, fun _ => ⟨DiskAt.head d0 rfl rfl wf (by simp only [Hp.size_setB]; omega) r1 (fun c _ hne => by rw [get_set_ne hne]; exact gn c hne) g1 (by rw [get_set_self]), hc1.set (.inl a7) _⟩⟩
  by_cases q6 : D.2.2.2.1 = 0
  · have ea : actS D i w = ((D.1, D.2.1, D.2.2.1, dn D.2.2.2.1, D.2.2.2.2.1, D.2.2.2.2.2), 8) := by unfold actS; rw [if_neg q1, if_neg q23, if_neg q5, if_pos q6]
    rw [ea] at wf
    have e : Ex (fun v k' => v = .int .i64 8 ∧ k' = k1) (evalV Try.prog I (N + 1 + 1) (.fn 85) #[.pointer (some ⟨b, 0, none⟩), .int .i64 i, .bool w, .func (.func g) #[] cl.toArray] k) := by
      rw [evalV_call (P := Try.prog) (intr := I) (f := 85) (m := 57) (rs := #[.tmp 8]) h1 Try.func85 rfl rfl rfl]
      cases w with
      | false =>
        simp (maxDischargeDepth := 16) only [z04, z05, z08, z09, z0a, z0b, z0c, z0d, z0e, z0f, z0o, z0p, z0q, z0r, z0s, z0t, z0v, z0w, z0x, z0z, z10, z11, z12, z13, z16, z1c, z1e, z1l, z1p, z1r, z1v, z1y, z21, z2c, z2d, z2g, z2w, z2x, z3b, z3c, z3f, z3h, z3l, z4e, z4f, z4g, z4h, z4i, z4j, z4k, z4l, z4m, z4n, z4o, z4p, z4q, z4r, z4s, z4t, z4u, z4v, z4w, z4x, z4y, z4z, z50, z51, z52, z53, z54, z59, z5a, z5b, z5c, z5e, Nat.reduceAdd, Nat.reduceSub, ↓reduceIte, yielded, Hp.cell, hasBx103, hasBx109, tFieldAx149x0, tFieldAx149x3, tLenx110, tPartx110, cp, q2, q3, g1, b3, eq_true q6, ne_f a31, ne_f0 a31, lt_t a31, lt_t0 a31]
        exact ⟨_, _, rfl, rfl, rfl⟩
      | true =>
        have q7 : ¬ D.2.2.1 = 0 := fun h => q5 ⟨rfl, h⟩
        simp (maxDischargeDepth := 16) only [z04, z05, z08, z09, z0a, z0b, z0c, z0d, z0e, z0f, z0o, z0p, z0q, z0r, z0s, z0t, z0v, z0w, z0x, z0z, z10, z11, z12, z13, z16, z1c, z1e, z1l, z1p, z1r, z1v, z1y, z21, z2b, z2c, z2d, z2g, z2w, z2x, z3b, z3c, z3f, z3h, z4e, z4f, z4g, z4h, z4i, z4j, z4k, z4l, z4m, z4n, z4o, z4p, z4q, z4r, z4s, z4t, z4u, z4v, z4w, z4x, z4y, z4z, z50, z51, z52, z53, z54, z59, z5a, z5b, z5c, z5e, Nat.reduceAdd, Nat.reduceSub, ↓reduceIte, yielded, Hp.cell, hasBx103, hasBx109, tFieldAx149x0, tFieldAx149x2, tFieldAx149x3, tLenx110, tPartx110, tPartx146, cp, q2, q3, g1, b3, g1', eq_true q6, q7, ne_f a31, ne_f0 a31, lt_t a31, lt_t0 a31]
        exact ⟨_, _, rfl, rfl, rfl⟩
    rw [evalV_call (P := Try.prog) (intr := I) (f := 85) (m := 57) (rs := #[.tmp 8]) h1 Try.func85 rfl rfl rfl] at e
    refine e.mono ?_
    rintro v k' ⟨rfl, rfl⟩
    rw [ea]
    exact ⟨rfl, fun h => by simp at h, fun _ => ⟨DiskAt.head d0 rfl rfl wf (by omega) r1 (fun c _ hne => gn c hne) g1 g1', hc1⟩⟩
  have ea : actS D i w = ((D.1, D.2.1, if w = true then dn D.2.2.1 else D.2.2.1, dn D.2.2.2.1, D.2.2.2.2.1, IntKind.i64.wrap (D.2.2.2.2.2 + 1)), 0) := by unfold actS; rw [if_neg q1, if_neg q23, if_neg q5, if_neg q6]
  rw [ea] at wf hgo ⊢
  simp only [eq_self, true_implies] at hgo
  cases w with
  | false =>
    simp (maxDischargeDepth := 16) only [z04, z08, z09, z0a, z0c, z0d, z0e, z0p, z0q, z0r, z0s, z0t, z0u, z0v, z0w, z0x, z0z, z10, z11, z12, z13, z16, z1c, z1e, z1f, z1l, z1p, z1r, z1v, z1w, z1x, z1y, z21, z24, z2c, z2d, z2g, z2m, z2w, z2x, z2y, z3b, z3h, z3l, z3p, z3v, z3w, z44, z45, z46, z49, z4e, z4f, z4g, z4h, z4i, z4j, z4k, z4l, z4m, z4n, z4o, z4p, z4q, z4r, z4s, z4t, z4u, z4v, z4w, z4x, z4y, z50, z51, z52, z53, z54, z59, z5a, z5b, z5c, z5e, z5f, z72, Nat.reduceAdd, Nat.reduceSub, ↓reduceIte, Int.reduceNe, yielded, Hp.cell, Hp.wr, hasBx103, hasBx109, tFieldAx149x0, tFieldAx149x3, tFieldAx149x5, tLenx110, tPartx3, tPartx110, tSizex3, cp, q2, q3, g1, b3, g1', q6, ne_f a31, ne_f0 a31, lt_t a31, lt_t0 a31, hro1, hg]
    refine ex_any (Ex _) (hgo _ (DiskAt.head d0 rfl rfl wf (by simp only [Hp.size_setB]; omega) r1 (fun c _ hne => by rw [get_set_ne hne]; exact gn c hne) g1 (by rw [get_set_self]; rfl)) (hc1.set (.inl a7) _)) ?_
    intro v k' hp
    simp (maxDischargeDepth := 16) only [z05, z08, z09, z0d, z0e, z0o, z0p, z0q, z0s, z0t, z0w, z11, z3b, z3c, z3f, z4e, z4f, z4g, z4h, z4i, z4z]
    exact ⟨_, _, rfl, rfl, fun _ => hp, fun h => h.elim⟩
  | true =>
    have q7 : ¬ D.2.2.1 = 0 := fun h => q5 ⟨rfl, h⟩
    replace b2 := b2 k1 _ g1' r1 s1
    by_cases q8 : 0 ≤ D.2.2.1
    · simp (maxDischargeDepth := 16) only [z04, z08, z09, z0a, z0b, z0c, z0d, z0e, z0p, z0q, z0r, z0s, z0t, z0u, z0v, z0w, z0x, z0z, z10, z11, z12, z13, z16, z1c, z1e, z1f, z1l, z1p, z1r, z1v, z1w, z1x, z1y, z21, z24, z2b, z2c, z2d, z2g, z2m, z2w, z2x, z2y, z33, z3b, z3h, z3p, z3v, z3w, z44, z45, z46, z49, z4d, z4e, z4f, z4g, z4h, z4i, z4j, z4k, z4l, z4m, z4n, z4o, z4p, z4q, z4r, z4s, z4t, z4u, z4v, z4w, z4x, z4y, z50, z51, z52, z53, z54, z59, z5a, z5b, z5c, z5e, z5f, z72, Nat.reduceAdd, Nat.reduceSub, ↓reduceIte, Int.reduceNe, yielded, Hp.cell, Hp.wr, hasBx103, hasBx109, tFieldAx149x0, tFieldAx149x2, tFieldAx149x3, tFieldAx149x5, tLenx110, tPartx3, tPartx110, tPartx146, tSizex3, cp, q2, q3, g1, b3, g1', q6, q7, ne_f a31, ne_f0 a31, lt_t a31, lt_t0 a31, hro1, hg, b2, q8]
      refine ex_any (Ex _) (hgo _ (DiskAt.head d0 rfl rfl wf (by simp only [Hp.size_setB]; omega) r1 (fun c _ hne => by rw [get_set_ne hne, get_set_ne hne]; exact gn c hne) g1 (by rw [get_set_self]; simp only [dn, q8, if_true])) ((hc1.set (.inl a7) _).set (.inl a7) _)) ?_
      intro v k' hp
      simp (maxDischargeDepth := 16) only [z05, z08, z09, z0d, z0e, z0o, z0p, z0q, z0s, z0t, z0w, z11, z3b, z3c, z3f, z4e, z4f, z4g, z4h, z4i, z4z]
      exact ⟨_, _, rfl, rfl, fun _ => hp, fun h => h.elim⟩
    · simp (maxDischargeDepth := 16) only [z04, z08, z09, z0a, z0b, z0c, z0d, z0e, z0p, z0q, z0r, z0s, z0t, z0u, z0v, z0w, z0x, z0z, z10, z11, z12, z13, z16, z1c, z1e, z1f, z1l, z1p, z1r, z1v, z1w, z1x, z1y, z21, z24, z2b, z2c, z2d, z2g, z2m, z2w, z2x, z2y, z3b, z3h, z3p, z3v, z3w, z44, z45, z46, z49, z4e, z4f, z4g, z4h, z4i, z4j, z4k, z4l, z4m, z4n, z4o, z4p, z4q, z4r, z4s, z4t, z4u, z4v, z4w, z4x, z4y, z50, z51, z52, z53, z54, z59, z5a, z5b, z5c, z5e, z5f, z72, Nat.reduceAdd, Nat.reduceSub, ↓reduceIte, Int.reduceNe, yielded, Hp.cell, Hp.wr, hasBx103, hasBx109, tFieldAx149x0, tFieldAx149x2, tFieldAx149x3, tFieldAx149x5, tLenx110, tPartx3, tPartx110, tPartx146, tSizex3, cp, q2, q3, g1, b3, g1', q6, q7, ne_f a31, ne_f0 a31, lt_t a31, lt_t0 a31, hro1, hg, b2, q8]
      refine ex_any (Ex _) (hgo _ (DiskAt.head d0 rfl rfl wf (by simp only [Hp.size_setB]; omega) r1 (fun c _ hne => by rw [get_set_ne hne]; exact gn c hne) g1 (by rw [get_set_self]; simp only [dn, q8, if_true, if_false])) (hc1.set (.inl a7) _)) ?_
      intro v k' hp
      simp (maxDischargeDepth := 16) only [z05, z08, z09, z0d, z0e, z0o, z0p, z0q, z0s, z0t, z0w, z11, z3b, z3c, z3f, z4e, z4f, z4g, z4h, z4i, z4z]
      exact ⟨_, _, rfl, rfl, fun _ => hp, fun h => h.elim⟩
end
end Go.Abs.B1
