/- The disk: a block is put into the buffer. -/
import Derived.Test.YtnlhfcipapbfmaaDk9
namespace Go.Abs.B1
open Go.Proofs
set_option maxRecDepth 10000
set_option maxHeartbeats 4000000
set_option linter.all false
/-- What stands in the buffer behind a write. -/
def putS (D : DV) (i : Int) (x : List Value) : DV :=
  if 0 ≤ idxF i D.2.1 0 then (D.1, D.2.1.set (idxF i D.2.1 0).toNat (i, x), D.2.2)
  else match D.2.1 with
    | r :: rs => if rs.length = 7 then (D.1.set r.1.toNat r.2, rs ++ [(i, x)], D.2.2) else (D.1, D.2.1 ++ [(i, x)], D.2.2)
    | [] => (D.1, [(i, x)], D.2.2)
theorem nodup_map_set {l : List T167} {j : Nat} {i : Int} {x : List Value} {y : T167} (hy : l[j]? = some y) (hi : y.1 = i) : (l.set j (i, x)).map (·.1) = l.map (·.1) := by
  apply List.ext_getElem?
  intro n
  rw [List.getElem?_map, List.getElem?_map, List.getElem?_set]
  by_cases hn : j = n
  · subst hn
    have := (List.getElem?_eq_some_iff.1 hy).1
    rw [if_pos rfl, if_pos this, hy]; simp [hi]
  · rw [if_neg hn]
theorem putS_wf {D : DV} {i : Int} (x : List Value) (h : WF D) (hi : 0 ≤ i ∧ i < (D.1.length : Int)) : WF (putS D i x) := by
  obtain ⟨h1, h2, h3, h0, h4, h5, h6⟩ := h
  unfold putS
  rcases idxF_range i D.2.1 0 with ⟨q, hq⟩ | ⟨j, y, q1, q2, q3, -⟩
  · rw [if_neg (by omega)]
    have hnew : ∀ l : List T167, (∀ r ∈ l, r ∈ D.2.1) → (l.map (·.1)).Nodup → ((l ++ [(i, x)]).map (·.1)).Nodup := fun l hl hn => by
      rw [List.map_append, List.nodup_append]
      refine ⟨hn, by simp, fun a ha b hb => ?_⟩
      obtain ⟨r, hr, rfl⟩ := List.mem_map.1 ha
      simp at hb; subst hb
      exact hq r (hl r hr)
    split
    · rename_i r rs hrs
      rw [hrs] at h2 h3 h0 hnew
      split
      · rename_i h7
        refine ⟨by simpa using h1, by simp only [List.length_append, List.length_cons, List.length_nil]; omega, fun z hz => ?_, hnew rs (fun r hr => List.mem_cons_of_mem _ hr) (by rw [List.map_cons, List.nodup_cons] at h0; exact h0.2), h4, h5, h6⟩
        simp only [List.length_set]
        rcases List.mem_append.1 hz with hz | hz
        · exact h3 z (List.mem_cons_of_mem _ hz)
        · simp at hz; subst hz; exact hi
      · rename_i h7
        rw [hrs]
        refine ⟨h1, by simp only [List.length_append, List.length_cons, List.length_nil] at h2 ⊢; omega, fun z hz => ?_, hnew _ (fun r hr => hr) h0, h4, h5, h6⟩
        rcases List.mem_append.1 hz with hz | hz
        · exact h3 z hz
        · simp at hz; subst hz; exact hi
    · refine ⟨h1, by simp, fun z hz => ?_, by simp, h4, h5, h6⟩
      simp at hz; subst hz; exact hi
  · rw [if_pos (by omega)]
    have hj : (idxF i D.2.1 0).toNat = j := by omega
    rw [hj]
    refine ⟨h1, by simpa using h2, fun z hz => ?_, by rw [nodup_map_set q1 q2]; exact h0, h4, h5, h6⟩
    rcases List.mem_or_eq_of_mem_set hz with hz | hz
    · exact h3 z hz
    · subst hz; exact hi
section
variable {I : Intr} {N : Nat} {k : Hp} {S : Nat → Prop} {b : Nat} {D : DV} {p : Nat → Prop}
theorem DiskAt.blk {D : DV} {bv : Value} {qb : Option Nat} (a : OwnC R167 k bv qb D.2.1) (h : D.2.1 ≠ []) : ∃ q, qb = some q := by
  rcases a with ⟨_, _, h'⟩ | ⟨b, c, cells, h1, h2, h3⟩
  · exact absurd h' h
  · exact ⟨b, h2⟩
theorem vin_mono_r {α : Type} {e : Rp α} {o : Bool} {p q : Nat → Prop} {k : Hp} {cs : List Value} {x : α} (r : e.r o p k cs x) (h : ∀ b, p b → q b) : e.r o q k cs x := e.mono r h id (Fr.refl _)
theorem run_Write1 (h0 : I 97 = none) (h1 : I 87 = none) (h2 : I 110 = none) (h3 : I 111 = none) (h4 : I 98 = none) (h5 : I 99 = none) (hN : 40 < N) (d : DiskAt S k b D) {n : Nat} (hn : n < D.1.length) {cd ci cx : Nat} (gd : k.get cd = some (.cells #[.pointer (some ⟨b, 0, none⟩)] true)) (gi : k.get ci = some (.cells #[.int .i64 (n : Int)] true))
    {x : List Value} (gx : k.get cx = some (.cells x.toArray true)) (hf : flatOk K98 x) (hcd : cd < k.size) (hci : ci < k.size) (hcx : cx < k.size) (hS : ¬ S cd ∧ ¬ S ci ∧ ¬ S cx) (hne : ci ≠ cd ∧ cx ≠ cd) :
    Ex (fun _ k' => DiskAt (fun c => S c ∨ k.size ≤ c ∧ c < k'.size) k' b (putS D n x) ∧ Chg S k k') (evalV Try.prog I N (.fn 97) #[.pointer (some ⟨cd, 0, none⟩), .pointer (some ⟨ci, 0, none⟩), .pointer (some ⟨cx, 0, none⟩)] k) := by
  obtain ⟨N, rfl⟩ : ∃ n, N = n + 1 := ⟨N - 1, by omega⟩
  have d0 := d
  have hput := putS_wf (i := n) x d.wf (by omega)
  obtain ⟨pb, pc, bv, qb, g1, g2, a1, a2, a3, a4, a5, a6, a7, a8, a9, a10⟩ := d
  have hl64 : x.length = 64 := hf.len
  have vaf := fun p => all_flat (p := p) hf
  have vbf := fun p => vb_flat (p := p) hf
  have o1 := flat_all1 hf
  have tk : x.take 64 = x := List.take_of_length_le (by omega)
  have so : 64 ≤ x.length := by omega
  have hro : k.ro ≤ k.size := by have := a9 b a7; omega
  rw [evalV_call (P := Try.prog) (intr := I) (f := 97) (m := 51) (rs := #[]) h0 Try.func97 rfl rfl rfl]
  simp (maxDischargeDepth := 16) only [z08, z09, z0q, z0s, z0t, z0v, z0x, z0z, z1e, z1l, z1v, z2x, z3b, z3h, z4e, z4f, z4g, z4h, z4i, z4j, z4k, z4l, z4m, z4n, z4p, z4q, z4r, z4s, z4t, z4u, z4v, z4w, z4x, z4y, z53, Nat.reduceAdd, Nat.reduceSub, ↓reduceIte, Hp.cell, hasBx87, tPartx3, tPartx89, gd, gi, ne_f hcd, ne_f0 hcd, lt_t hcd, lt_t0 hcd, ne_f hci, ne_f0 hci, lt_t hci, lt_t0 hci]
  refine ex_any (Ex _) (run_held h1 h2 h3 (N := N) (by omega) d0 hro (s := (n : Int))).ex ?_
  rintro _ k2 ⟨hk2, hr2, rfl⟩
  have d2 := d0.keep hk2 hr2
  have hs2 := hk2.size
  have gd2 : k2.get cd = _ := (hk2.get cd hcd).trans gd
  have gi2 : k2.get ci = _ := (hk2.get ci hci).trans gi
  have gx2 : k2.get cx = _ := (hk2.get cx hcx).trans gx
  have n1 : cd < k2.size := by omega
  have n2 : ci < k2.size := by omega
  have n3 : cx < k2.size := by omega
  have hr22 : k2.ro ≤ k2.size := by omega
  rcases idxF_range (n : Int) D.2.1 0 with ⟨q, hq⟩ | ⟨j, y, q1, q2, q3, -⟩
  · have hge : ¬ (0 : Int) ≤ -1 := by omega
    have hp0 : putS D n x = match D.2.1 with
      | r :: rs => if rs.length = 7 then (D.1.set r.1.toNat r.2, rs ++ [((n : Int), x)], D.2.2) else (D.1, D.2.1 ++ [((n : Int), x)], D.2.2)
      | [] => (D.1, [((n : Int), x)], D.2.2) := by unfold putS; rw [q, if_neg hge]
    rw [q]
    have g1' := (hk2.get b a3).trans g1
    have m1 : b < k2.size := by omega
    have hc2 : Chg S k k2 := Chg.of hk2 hr2
    have hi64 : i64ok (n : Int) := ⟨by rw [i64_minmax.1]; omega, by rw [i64_minmax.2]; have := a10.len; omega⟩
    obtain ⟨ao, co, hbv⟩ := a2.form
    rw [hbv] at g1'
    by_cases h8 : (D.2.1.length : Int) = 8
    case' pos =>
      obtain ⟨r0, rs, hrs⟩ : ∃ r rs, D.2.1 = r :: rs := by
        cases h : D.2.1 with
        | nil => rw [h] at h8; simp at h8
        | cons r rs => exact ⟨r, rs, rfl⟩
      simp (maxDischargeDepth := 16) only [z04, z08, z09, z0a, z0b, z0c, z0d, z0e, z0p, z0q, z0s, z0t, z0v, z0w, z0z, z10, z11, z13, z16, z1c, z1e, z1p, z1r, z1v, z21, z2b, z2g, z2w, z2x, z3b, z4e, z4f, z4g, z4h, z4i, z4m, z4n, z4o, z50, z51, z53, z5a, z5b, z7t, Hp.cell, tFieldAx149x1, tLenx147, tPartx89, tPartx147, hge, gd2, ne_f n1, ne_f0 n1, lt_t n1, lt_t0 n1, g1', ne_f m1, ne_f0 m1, lt_t m1, lt_t0 m1, eq_true h8]
      have hbuf := DiskAt.buf (pb := pb) (a2.mono (k' := k2) hs2 (fun b hb => hk2.get b (a6 b hb).1))
      have hr0 : D.2.1[0]? = some r0 := by rw [hrs]; rfl
      obtain ⟨bb, off, _, cells, ow, part, ee, hb0, hgb, -, hp', hle, hex, hcell⟩ := elem_at (s := 65) hbuf hr0 rfl (by decide)
      rw [hbv] at ee
      cases ee
      obtain ⟨l, hpart, hr01, hl, hfl⟩ := R167_inv hp'
      have hbb : bb < k2.size := by have := (a6 bb hb0).1; omega
      have w1 : ∀ p, part.all (vokB p) = true := fun p => by rw [hpart, hl, List.all_append, all_flat hfl]; simp [vb_int]
      have hl0 : (0 : Int) < (D.2.1.length : Int) := by omega
      simp only [Nat.zero_mul, Nat.zero_add, Nat.add_zero] at hle hex
      rw [evalDraw_modes _ _ [(2, 0, 1), (2, 0, 2), (0, 2, 6), (0, 6, 14), (2, 14, 30), (0, 30, 62), (2, 62, 126), (4, 127, 255)] (by kernel_rfl)]
      simp (maxDischargeDepth := 16) only [z0t, z0v, z0w, z0x, z0z, z16, z18, z1c, z1e, z1l, z1v, z1z, z21, z2u, z2w, z2x, z3b, z3h, z46, z4e, z4f, z4g, z4h, z4i, z4j, z4k, z4l, z4m, z4n, z4o, z4p, z4s, z4u, z4v, z4z, z50, z51, z53, z54, z5a, z5j, z5l, z5u, z5x, z6a, z6b, z6d, z6g, z6h, z6o, z6p, z6t, z6v, z6x, z70, z71, z8d, Nat.reduceAdd, Nat.reduceMul, ↓reduceIte, Int.reduceLE, Int.reduceToNat, keepR, Hp.cell, Hp.row, hasBx98, tElemx147, tFieldAx149x1, tPartx89, tPartx147, tPartx154, gd2, ne_f n1, ne_f0 n1, lt_t n1, lt_t0 n1, g1', ne_f m1, ne_f0 m1, lt_t m1, lt_t0 m1, eq_true h8, hgb, ne_f hbb, ne_f0 hbb, lt_t hbb, lt_t0 hbb, hl0, hle, hex, w1]
      refine ex_kd1 (Ex _) (run_down (N := N) h4 (by omega) d2 hp' (a10.sec r0 (by rw [hrs]; exact List.mem_cons_self))) (fun v k' h => h.2.2.1) (fun v k' h => by rw [h.1]; exact vin_unit) (by decide) ?_
      rintro _ k4 ⟨rfl, d4, c4⟩
      have s4 := c4.1
      have gd4 : k4.get cd = _ := (c4.2.2 cd n1 hS.1).trans gd2
      have gi4 : k4.get ci = _ := (c4.2.2 ci n2 hS.2.1).trans gi2
      have gx4 : k4.get cx = _ := (c4.2.2 cx n3 hS.2.2).trans gx2
      have n14 : cd < k4.size := by omega
      have d40 := d4
      obtain ⟨pb4, pc4, bv4, qb4, f1, f2, t1, t2, t3, t4, t5, t6, t7, t8, t9, t10⟩ := d4
      obtain ⟨q4, rfl⟩ := DiskAt.blk t2 (by show D.2.1 ≠ []; rw [hrs]; simp)
      obtain ⟨co4, hbv4⟩ := t2.form_some
      have t2' := t2
      rw [hbv4] at f1 t2'
      obtain ⟨u1, u2, u3, u4⟩ := t6 q4 rfl
      simp (maxDischargeDepth := 16) only [z0d, z0e, z0t, z4g, z4h, z4i, z5t, z7t, Nat.reduceAdd]
      rw [evalDraw_modes _ _ [(3, 0, 1), (2, 0, 2), (0, 2, 6), (0, 6, 14), (2, 14, 30), (5, 1, 62), (0, 63, 127), (0, 127, 255), (4, 255, 511)] (by kernel_rfl)]
      have hncd : b ≠ cd := fun e => hS.1 (e ▸ t7)
      have hnb : (b = cd) = False := by simp [hncd]
      simp (maxDischargeDepth := 16) only [z0t, z0v, z0w, z0x, z0z, z16, z1c, z1e, z1l, z1v, z21, z2w, z2x, z39, z3b, z3h, z46, z4e, z4f, z4g, z4h, z4i, z4j, z4k, z4l, z4m, z4n, z4o, z4s, z4u, z4v, z50, z51, z53, z5a, z5j, z5l, z5u, z5x, z6a, z6b, z6h, z6o, z6p, z6t, z6v, z6x, z70, z71, z8c, z8e, z8i, z8k, z8l, z8m, z8n, z8o, z8p, z8q, Nat.reduceAdd, Nat.reduceSub, ↓reduceIte, Nat.reduceDiv, Nat.reduceMod, keepR, Hp.cell, hasBx99, tFieldAx149x1, tPartx89, tPartx147, gd4, ne_f n14, ne_f0 n14, lt_t n14, lt_t0 n14, f1, ne_f t3, ne_f0 t3, lt_t t3, lt_t0 t3, ne_f u1, ne_f0 u1, lt_t u1, lt_t0 u1]
      refine ex_kdh (Ex _) (run_Delete (N := N) (k := k4.setB cd none) h5 (by omega) (t2'.mono (by simp) (fun c hc => by cases hc; exact get_set_ne (fun e => hS.1 (e ▸ u4)))) (by show D.2.1.length = 8; omega) (t9 q4 u4).1) (fun v k' h => by rw [h.2.1]; simp) (fun v k' h => by obtain ⟨c5, e5⟩ := h.1.form_some; rw [e5]; exact vin_slice.2 (.inl u1)) (by decide) ?_
      rintro v5 k5 ⟨d5, s5, r5, g5⟩
      obtain ⟨c5, rfl⟩ := d5.form_some
      have gb5 : k5.get b = _ := ((g5 b u2.symm).trans (get_set_ne hncd)).trans f1
      have rb5 : (k5.ro ≤ b) = True := by rw [r5]; simp; exact (t9 b t7).1
      have al : ∀ bits kept, allow k4.size kept bits b = true := fun _ _ => allow_old t3
      simp (maxDischargeDepth := 16) only [z0d, z0e, z0t, z0u, z0v, z0z, z16, z1c, z1f, z1w, z1x, z21, z2q, z2w, z2y, z35, z3b, z3s, z3v, z3w, z44, z45, z46, z49, z4b, z4d, z4e, z4f, z4g, z4h, z4i, z4p, z4q, z4r, z50, z51, z53, z5f, z5j, z5k, z5t, z5u, z66, z6a, z72, z7t, z8d, z8s, z8t, Nat.reduceLeDiff, Nat.reduceAdd, ↓reduceIte, keepR, Hp.wr, tFieldAx149x1, tSizex147, gb5, gd4, hnb, rb5, al]
      refine evalDraw_heap (Ex _) fun k3 hk3 => ?_
      obtain ⟨E, hEe⟩ : ∃ E : DV, E = ((downS D r0).1, (downS D r0).2.1.drop 1, (downS D r0).2.2) := ⟨_, rfl⟩
      have hr7 : rs.length = 7 := by rw [hrs] at h8; simp only [List.length_cons] at h8; omega
      have hEr : E.2.1 = rs := by rw [hEe]; show D.2.1.drop 1 = rs; rw [hrs]; rfl
      have hncp : pb4 ≠ cd := fun e => hS.1 (e ▸ t8)
      have hncq : q4 ≠ cd := fun e => hS.1 (e ▸ u4)
      have hE : DiskAt S k3 b E := by
        refine ⟨pb4, pc4, .slice (some ⟨q4, 0, none⟩) (List.drop 1 (downS D r0).2.1).length c5, some q4, ?_, ?_, ?_, ?_, by rw [hk3]; simp only [Hp.size_setB]; rw [s5]; simpa using t3, by rw [hk3]; simp only [Hp.size_setB]; rw [s5]; simpa using t4, t5, fun c hc => by cases hc; exact ⟨by rw [hk3]; simp only [Hp.size_setB]; rw [s5]; simpa using u1, u2, u3, u4⟩, t7, t8, fun c hc => ?_, ?_⟩
        case refine_1 => rw [hk3, get_set_self, hEe]
        case refine_2 => rw [hk3, get_set_ne t5.symm, get_set_ne hncp, g5 pb4 u3.symm, get_set_ne hncp]; exact f2
        case refine_3 => rw [hEe]; exact t1.mono (fun _ h => h) id frN
        case refine_4 =>
          have := d5.mono (k' := k3) (by rw [hk3]; simp only [Hp.size_setB]; exact Nat.le_refl _) (fun c hc => by cases hc; rw [hk3, get_set_ne u2, get_set_ne hncq])
          rw [hEe]; exact this
        case refine_5 => rw [hk3]; simp only [Hp.size_setB, Hp.ro_setB]; rw [s5, r5]; simpa using t9 c hc
        case refine_6 =>
          obtain ⟨y1, y2, y3, y0, y4, y5, y6⟩ := t10
          have y0' : ((downS D r0).2.1.map (·.1)).Nodup := y0
          have hrs' : (downS D r0).2.1 = r0 :: rs := hrs
          rw [hrs', List.map_cons, List.nodup_cons] at y0'
          exact ⟨by rw [hEe]; exact y1, by rw [hEr]; omega, fun z hz => by rw [hEr] at hz; rw [hEe]; exact y3 z (by rw [hrs']; exact List.mem_cons_of_mem _ hz), by rw [hEr]; exact y0'.2, by rw [hEe]; exact y4, by rw [hEe]; exact y5, by rw [hEe]; exact y6⟩
      have hEl : E.2.1.length < 8 := by rw [hEr]; omega
      have hpE : putS D n x = (E.1, E.2.1 ++ [((n : Int), x)], E.2.2) := by rw [hp0, hrs]; simp only []; rw [if_pos hr7, hEr, hEe]; rfl
      have cE : Chg S k k3 := by
        have c5' : Chg S k4 k3 := ⟨by rw [hk3]; simp only [Hp.size_setB]; rw [s5]; simp, by rw [hk3]; simp only [Hp.ro_setB]; rw [r5]; simp, fun c hc hs => by
          rw [hk3, get_set_ne (by intro e; subst e; exact hs t7), Hp.get_setB]
          split
          · rename_i e; rw [e, gd4]
          · rename_i e; rw [g5 c (by intro e; subst e; exact hs u4), get_set_ne e]⟩
        exact (hc2.trans c4).trans c5'
      have gd3 := (cE.2.2 cd hcd hS.1).trans gd
      have gi3 := (cE.2.2 ci hci hS.2.1).trans gi
      have gx3 := (cE.2.2 cx hcx hS.2.2).trans gx
      clear hk3 g5 d5 t1 t2 t2' t3 t4 t5 t6 t7 t8 t9 t10 f1 f2
    case' neg =>
      simp (maxDischargeDepth := 16) only [z04, z08, z09, z0a, z0c, z0d, z0e, z0p, z0q, z0s, z0t, z0v, z0w, z0z, z10, z11, z13, z16, z1c, z1e, z1p, z1r, z1v, z21, z2b, z2g, z2w, z2x, z3b, z4e, z4f, z4g, z4h, z4i, z4m, z4n, z4o, z50, z51, z53, z5b, z7t, Hp.cell, tFieldAx149x1, tLenx147, tPartx89, tPartx147, hge, gd2, ne_f n1, ne_f0 n1, lt_t n1, lt_t0 n1, g1', ne_f m1, ne_f0 m1, lt_t m1, lt_t0 m1, h8]
      refine evalDraw_heap (Ex _) fun k3 hk3 => ?_
      obtain ⟨E, hEe⟩ : ∃ E : DV, E = D := ⟨_, rfl⟩
      have hE : DiskAt S k3 b E := by rw [hk3, hEe]; exact d2
      have hEl : E.2.1.length < 8 := by have := a10.rows; rw [hEe]; omega
      have hpE : putS D n x = (E.1, E.2.1 ++ [((n : Int), x)], E.2.2) := by
        rw [hp0, hEe]
        cases h : D.2.1 with
        | nil => rfl
        | cons r rs => rw [h] at h8; simp only [List.length_cons] at h8; simp only []; rw [if_neg (by omega)]
      have cE : Chg S k k3 := by rw [hk3]; exact hc2
      have gd3 := (cE.2.2 cd hcd hS.1).trans gd
      have gi3 := (cE.2.2 ci hci hS.2.1).trans gi
      have gx3 := (cE.2.2 cx hcx hS.2.2).trans gx
      clear hk3
    all_goals
      have s3 := cE.1
      have n13 : cd < k3.size := by omega
      have n23 : ci < k3.size := by omega
      have n33 : cx < k3.size := by omega
      obtain ⟨pb4, pc4, bv4, qb4, f1, f2, t1, t2, t3, t4, t5, t6, t7, t8, t9, t10⟩ := hE
      obtain ⟨ao4, co4, hbv4⟩ := t2.form
      have t2' := t2
      rw [hbv4] at f1 t2'
      have vbv : ∀ kept bits, vokB (allow k3.size kept bits) (.slice ao4 E.2.1.length co4) = true := fun kept bits => vb_old ((Rp.slice R167).rvin (vin_mono_r t2'.rp (fun c hc => (t6 c hc).1)) _ (List.mem_singleton.2 rfl))
      have hncd : b ≠ cd := fun e => hS.1 (e ▸ t7)
      have hnb : (b = cd) = False := by simp [hncd]
      have hnci : (ci = cd) = False := by simp [hne.1]
      have hncx : (cx = cd) = False := by simp [hne.2]
      rw [evalDraw_modes _ _ [(3, 0, 1), (2, 0, 2), (0, 2, 6), (0, 6, 14), (2, 14, 30), (2, 0, 32), (2, 0, 64), (0, 96, 224), (2, 224, 480), (5, 1, 1022), (0, 1023, 2047), (0, 2047, 4095), (4, 4095, 8191)] (by kernel_rfl)]
      simp (maxDischargeDepth := 16) only [z0t, z0v, z0z, z16, z1b, z1c, z1e, z1i, z1m, z1v, z21, z2m, z2o, z2w, z2x, z38, z39, z3b, z3v, z3w, z3x, z3y, z3z, z44, z46, z49, z4a, z4e, z4f, z4g, z4h, z4i, z4j, z4k, z4l, z4m, z4n, z4o, z4p, z4q, z4r, z4z, z50, z51, z53, z5a, z5b, z5f, z5j, z5l, z5u, z5x, z62, z6a, z6b, z6d, z6g, z6h, z6i, z6j, z6o, z6p, z6t, z6v, z6x, z6y, z6z, z70, z71, z72, z74, z77, z7b, z7c, z7d, z7e, z80, z81, z82, z83, z88, z8c, z8e, z8i, z8k, z8l, z8m, z8n, z8o, z8p, z8q, Nat.reduceLeDiff, Nat.reduceAdd, Nat.reduceSub, ↓reduceIte, Nat.reduceDiv, Nat.reduceMod, Nat.reducePow, keepR, Hp.cell, Hp.row, tBuildFx154x0, tBuildFx154x1, tBuildOkx154, tFieldAx149x1, tPartx3, tPartx89, tPartx98, tPartx147, tRowx147, tZerox154, gd3, gi3, gx3, ne_f n13, ne_f0 n13, lt_t n13, lt_t0 n13, ne_f n23, ne_f0 n23, lt_t n23, lt_t0 n23, ne_f n33, ne_f0 n33, lt_t n33, lt_t0 n33, f1, ne_f t3, ne_f0 t3, lt_t t3, lt_t0 t3, vbv, vaf, vbf, tk, hl64, splice_tail]
      refine ex_kdh (Ex _) (OwnC.append_ex (P := Try.prog) (t := 147) (tx := 147) (e := R167) (xs := E.2.1) (x := ((n : Int), x)) (k := (k3.push (some (.cells (Value.int .i64 (n : Int) :: x).toArray true))).setB cd none) (b? := qb4) (lit := k3.size) (cs := (Value.int .i64 (n : Int) :: x).toArray) tRowDR text147 rfl (by omega)
        (t2'.mono (by simp) (fun c hc => by rw [get_set_ne (by intro e; subst e; exact hS.1 (t6 _ hc).2.2.2), get_push_ne (by have := (t6 c hc).1; omega)])) (fun c hc => (t9 c (t6 c hc).2.2.2).1) (by rw [get_set_ne (by omega), get_push_self]) (R167_mk (x := ((n : Int), x)) hi64 ⟨rfl, hf⟩) (by
          intro c hc
          rcases List.mem_cons.1 (by simpa using hc : c ∈ Value.int .i64 (n : Int) :: x) with rfl | hc
          · exact flatB_int
          · exact (hf.mem c hc).1) (by omega) (by unfold capOpen; omega)) ?_ ?_ (by decide) ?_
      · rintro v' k' ⟨b', -, h, -⟩
        simp only [Hp.size_setB, Hp.size_push] at h ⊢
        omega
      · rintro v' k' ⟨b', ho, h, -⟩
        obtain ⟨c5, rfl⟩ := ho.form_some
        simp only [Hp.size_setB, Hp.size_push] at h ⊢
        rcases h with ⟨h, _⟩ | ⟨h, h'⟩
        · exact vin_slice.2 (.inl (t6 b' h).1)
        · exact vin_slice.2 (.inr ⟨by omega, by omega⟩)
      · rintro v' k5 ⟨b', ho, hbs, r5, g5⟩
        obtain ⟨c5, rfl⟩ := ho.form_some
        simp only [Hp.size_setB, Hp.size_push, Hp.ro_setB, Hp.ro_push] at hbs r5 g5
        have hqb : qb4 ≠ some b := fun e => (t6 b e).2.1 rfl
        have s5 : k3.size + 1 ≤ k5.size := by omega
        have gb5 : k5.get b = _ := ((g5 b (by omega) hqb).trans ((get_set_ne hncd).trans (get_push_ne (by omega)))).trans f1
        have rb5 : (k5.ro ≤ b) = True := by rw [r5]; simp; exact (t9 b t7).1
        have al : ∀ bits kept, allow k3.size kept bits b = true := fun _ _ => allow_old t3
        simp (maxDischargeDepth := 16) only [z0d, z0n, z0t, z0u, z0v, z0z, z16, z1c, z1f, z1w, z1x, z21, z2q, z2w, z2y, z34, z35, z3b, z3e, z3s, z3v, z3w, z44, z45, z46, z49, z4a, z4b, z4d, z4e, z4f, z4g, z4h, z4i, z4p, z4q, z4r, z50, z51, z53, z5f, z5j, z5k, z5t, z5u, z66, z6a, z72, z8d, z8s, z8t, Nat.reduceLeDiff, Nat.reduceAdd, ↓reduceIte, keepR, Hp.wr, tFieldAx149x1, tSizex147, gb5, gd3, hnb, rb5, al, ne_f n13, ne_f0 n13, lt_t n13, lt_t0 n13]
        have hqp : qb4 ≠ some pb4 := fun e => (t6 pb4 e).2.2.1 rfl
        have hncp : pb4 ≠ cd := fun e => hS.1 (e ▸ t8)
        have hb' : b' < k5.size ∧ b' ≠ b ∧ b' ≠ pb4 ∧ b' ≠ cd ∧ (S b' ∨ k.size ≤ b' ∧ b' < k5.size) := by
          rcases hbs with ⟨e, h⟩ | ⟨e, h⟩
          · obtain ⟨z1, z2, z3, z4⟩ := t6 b' e
            exact ⟨by omega, z2, z3, fun e => hS.1 (e ▸ z4), .inl z4⟩
          · exact ⟨by omega, by omega, by omega, by omega, .inr ⟨by omega, by omega⟩⟩
        refine ⟨_, _, rfl, ⟨pb4, pc4, .slice (some ⟨b', 0, none⟩) (E.2.1 ++ [((n : Int), x)]).length c5, some b', ?_, ?_, ?_, ?_, by simp only [Hp.size_setB]; omega, by simp only [Hp.size_setB]; omega, t5, fun c hc => by cases hc; exact ⟨by simp only [Hp.size_setB]; omega, hb'.2.1, hb'.2.2.1, by simp only [Hp.size_setB]; exact hb'.2.2.2.2⟩, .inl t7, .inl t8, fun c hc => ?_, hput⟩, ?_⟩
        case refine_1 => rw [get_set_self, hpE]
        case refine_2 => rw [get_set_ne t5.symm, get_set_ne hncp, g5 pb4 (by omega) hqp, get_set_ne hncp, get_push_ne (by omega)]; exact f2
        case refine_3 => rw [hpE]; exact t1.mono (fun _ h => h) id frN
        case refine_4 =>
          rw [hpE]
          exact ho.mono (by simp only [Hp.size_setB]; exact Nat.le_refl _) (fun c hc => by cases hc; rw [get_set_ne hb'.2.1, get_set_ne hb'.2.2.2.1])
        case refine_5 =>
          simp only [Hp.size_setB, Hp.ro_setB] at hc ⊢
          rcases hc with hc | hc
          · have := t9 c hc; omega
          · have := cE.2.1; omega
        case refine_6 =>
          refine cE.trans ⟨by simp only [Hp.size_setB]; omega, by simp only [Hp.ro_setB]; exact r5, fun c hc hs => by
            rw [get_set_ne (by intro e; subst e; exact hs t7), Hp.get_setB]
            split
            · rename_i e; rw [e, gd3]
            · rename_i e; rw [g5 c (by omega) (by intro h; exact hs (t6 c h).2.2.2), get_set_ne e, get_push_ne (by omega)]⟩
  · have hj := (List.getElem?_eq_some_iff.1 q1).1
    rw [Nat.zero_add] at q3
    have hp : putS D n x = (D.1, D.2.1.set j ((n : Int), x), D.2.2) := by unfold putS; rw [q3, if_pos (by omega), Int.toNat_natCast]
    rw [q3, hp]
    rw [hp] at hput
    obtain ⟨q, hqb⟩ := DiskAt.blk a2 (fun e => by rw [e] at hj; simp at hj)
    subst hqb
    have a22 := a2.mono (k' := k2) hs2 (fun b hb => hk2.get b (a6 b hb).1)
    obtain ⟨c, cells, rfl, gq, hle, hset⟩ := a22.setIn q1 (s := 65) (j := 1) (d := x) (y := ((n : Int), x)) rfl (by omega) (fun c hc => (hf.mem c hc).1) (by
      intro part hpl hpr
      obtain ⟨l, rfl, -, rfl, t2⟩ := R167_inv hpr
      have : ([Value.int IntKind.i64 y.1] ++ y.2).take 1 ++ (x ++ ([Value.int IntKind.i64 y.1] ++ y.2).drop (1 + x.length)) = [.int .i64 (n : Int)] ++ x := by
        have h64 : y.2.length = 64 := t2.len
        rw [q2]
        simp [List.drop_eq_nil_of_le, h64, hl64]
      rw [this]
      exact R167_mk (x := ((n : Int), x)) ⟨by rw [i64_minmax.1]; omega, by rw [i64_minmax.2]; have := a10.len; omega⟩ ⟨rfl, hf⟩)
    obtain ⟨hqk, hqb, hqp, hqS⟩ := a6 q rfl
    have g1' := (hk2.get b a3).trans g1
    have m1 : b < k2.size := by omega
    have m2 : q < k2.size := by omega
    have hj0 : (0 ≤ (j : Int)) = True := by simp
    have hjl : ((j : Int) < (D.2.1.length : Int)) = True := by simp; omega
    have hrq : (k2.ro ≤ q) = True := by rw [hr2]; simp [(a9 q hqS).1]
    have hle2 : j * 65 + (1 + 64) ≤ cells.size := by omega
    simp (maxDischargeDepth := 16) only [z08, z09, z0a, z0b, z0d, z0e, z0p, z0q, z0s, z0t, z0v, z0w, z0z, z10, z11, z13, z2g, z3b, z4e, z4f, z4g, z4h, z4i, z5a, z7t, hj0]
    rw [evalDraw_modes _ _ [(2, 0, 1), (0, 1, 3), (0, 3, 7), (2, 7, 15), (0, 0, 16), (2, 0, 32), (0, 63, 127), (0, 127, 255), (4, 255, 511)] (by kernel_rfl)]
    simp (maxDischargeDepth := 16) only [z05, z0d, z0e, z0f, z0o, z0t, z0u, z0v, z0z, z10, z16, z18, z1c, z1e, z1f, z1v, z1w, z1x, z1z, z21, z2o, z2u, z2w, z2x, z2y, z3a, z3b, z3e, z3x, z3y, z3z, z46, z49, z4b, z4e, z4f, z4g, z4h, z4i, z4m, z4n, z4o, z4p, z4z, z50, z51, z53, z5a, z5j, z5k, z5l, z5t, z5u, z5x, z62, z66, z6a, z6b, z6h, z6o, z6p, z6t, z6v, z6x, z70, z71, z72, z8d, Nat.reduceAdd, Nat.reduceSub, ↓reduceIte, keepR, Hp.cell, Hp.row, Hp.wr, tElemx147, tFieldAx149x1, tFieldAx154x1, tPartx89, tPartx98, tPartx147, tSizex98, gd2, gx2, g1', gq, ne_f n1, ne_f0 n1, lt_t n1, lt_t0 n1, ne_f n3, ne_f0 n3, lt_t n3, lt_t0 n3, ne_f m1, ne_f0 m1, lt_t m1, lt_t0 m1, ne_f m2, ne_f0 m2, lt_t m2, lt_t0 m2, hj0, hjl, Int.toNat_natCast, hl64, tk, vbf, o1, hrq, hle2]
    have hc2 : Chg S k k2 := Chg.of hk2 hr2
    refine ⟨_, _, rfl, ⟨pb, pc, _, some q, ?_, ?_, a1.mono (fun _ h => h) id frN, hset _ ?_ ?_, ?_, ?_, a5, ?_, .inl a7, .inl a8, ?_, hput⟩, ?_⟩
    case refine_1 => rw [get_set_ne (Ne.symm hqb)]; simpa using g1'
    case refine_2 => rw [get_set_ne (Ne.symm hqp), hk2.get pb a4]; exact g2
    case refine_3 => simp only [Hp.size_setB]; exact Nat.le_refl _
    case refine_4 => exact get_set_self
    case refine_5 => simp only [Hp.size_setB]; omega
    case refine_6 => simp only [Hp.size_setB]; omega
    case refine_7 => exact fun c hc => by cases hc; exact ⟨by simp only [Hp.size_setB]; omega, hqb, hqp, .inl hqS⟩
    case refine_8 =>
      intro c hc
      simp only [Hp.size_setB, Hp.ro_setB] at hc ⊢
      rcases hc with hc | hc
      · have := a9 c hc; omega
      · omega
    case refine_9 => exact hc2.set (.inl hqS) _
end
end Go.Abs.B1
