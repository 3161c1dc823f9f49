/- The disk: rows go down. -/
import Derived.Test.YtnlhfcipapbfmaaDk12
namespace Go.Abs.B1
open Go.Proofs
set_option maxRecDepth 10000
set_option maxHeartbeats 4000000
set_option linter.all false
/-- The plate, behind rows that go down by what is kept. -/
def downL (keep : Nat → Bool) : List (List Value) → List T167 → Nat → List (List Value)
  | P, [], _ => P
  | P, r :: rs, i => downL keep (if keep i = true then P.set r.1.toNat r.2 else P) rs (i + 1)
theorem downL_len (keep : Nat → Bool) : ∀ (rs : List T167) (P : List (List Value)) (i : Nat), (downL keep P rs i).length = P.length
  | [], P, i => rfl
  | r :: rs, P, i => by
    rw [downL, downL_len keep rs]
    split <;> simp
def emptyS (D : DV) (keep : Nat → Bool) : DV := (downL keep D.1 D.2.1 0, [], D.2.2)
section
variable {I : Intr} {N : Nat} {k : Hp} {S : Nat → Prop} {b : Nat} {D : DV} {p : Nat → Prop}
theorem DiskAt.plate {P : List (List Value)} (d : DiskAt S k b D) : (P, D.2).1.length = P.length := rfl
theorem run_empty (J : IDk I) (hN : 60 < N) (d : DiskAt S k b D) {g : FuncId} {gc : List Value} (hg : hasB Try.prog g = true) (keep : Nat → Bool)
    (hgo : ∀ (i M : Nat) (h : Hp), i < D.2.1.length → 10 < M → Chg S k h → Al h (fun _ v => v = .bool (keep i)) (evalV Try.prog I M (.fn g) (Value.int .i64 (i : Int) :: gc).toArray h)) :
    Ex (fun v k' => v = .tuple #[] ∧ DiskAt S k' b (emptyS D keep) ∧ Chg S k k') (evalV Try.prog I N (.fn 83) #[.pointer (some ⟨b, 0, none⟩), .func (.func g) #[] gc.toArray] k) := by
  obtain ⟨N, rfl⟩ : ∃ n, N = n + 1 := ⟨N - 1, by omega⟩
  have hS := d.own
  have hro := d.ro
  have hwf := d.wf
  have d0 := d
  have rj : ∀ j, (k.ro ≤ k.size + j) = True := fun j => by simp; omega
  have nS : ∀ j, ¬ S (k.size + j) := fun j hj => by have := (hS _ hj).2; omega
  have nS0 : ¬ S k.size := nS 0
  have rw0 : ∀ k' : Hp, evalV Try.prog I N (.fn 70) #[.pointer (some ⟨b, 0, none⟩)] k' = some (.func (.func 100) #[] #[.pointer (some ⟨k'.size, 0, none⟩)], k'.push (some (.cells #[.pointer (some ⟨b, 0, none⟩)] true))) := fun k' => run_rows J.rows (by omega)
  rw [evalV_call (P := Try.prog) (intr := I) (f := 83) (m := 22) (rs := #[]) J.empty Try.func83 rfl rfl rfl]
  simp (maxDischargeDepth := 16) only [z08, z09, z0d, z0e, z0p, z0q, z0s, z0t, z0u, z0v, z0x, z10, z1d, z1f, z1g, z1h, z1l, z1w, z1x, z2y, z2z, z34, z3a, z3b, z3h, z3u, z3v, z3w, z44, z45, z46, z49, z4a, z4b, z4c, z4e, z4f, z4g, z4h, z4i, z4j, z4k, z4l, z4p, z4q, z4r, z4s, z4t, z4u, z4v, z4w, z4x, z4y, z4z, z53, z5f, z72, evalC_block, Nat.reduceAdd, Nat.reduceSub, ↓reduceIte, Hp.wr, hasBx70, tSizex180, tZerox180, rw0, rj, cells_func]
  refine range_rule3 (Ex _) fun asg' body' tm hb ea eb htm hhb => ?_
  have hs : hb.size = k.size + 3 := by rw [hhb]; simp only [Hp.size_push, Hp.size_setB]
  have hkb : Keeps k hb := by rw [hhb]; exact (by repeat (first | assumption | exact Keeps.refl _ | refine Keeps.push ?_ _ | refine Keeps.set ?_ (by first | omega | (simp only [Hp.size_push, Hp.size_setB]; omega)) _))
  have hrb : hb.ro = k.ro := by rw [hhb]; simp only [Hp.ro_push, Hp.ro_setB]
  have e0 : hb.get k.size = some (.cells #[.func (.func g) #[] gc.toArray] true) := by rw [hhb]; simp (maxDischargeDepth := 16) only [z34, z35, z38, z39, z3a, z4a, z4b, Nat.reduceEqDiff, Nat.reduceAdd, ↓reduceIte]
  have e1 : hb.get (k.size + 1) = some (.cells #[.func (.func 98) #[.pointer (some ⟨b, 0, none⟩)] #[]] true) := by rw [hhb]; simp (maxDischargeDepth := 16) only [z33, z34, z36, z3a, z4a, z4b, Nat.reduceEqDiff, Nat.reduceAdd, ↓reduceIte]
  have e2 : hb.get (k.size + 2) = some (.cells #[.pointer (some ⟨b, 0, none⟩)] true) := by rw [hhb]; simp (maxDischargeDepth := 16) only [z34, z3a, z4a, z4b, Nat.reduceAdd, ↓reduceIte]
  clear hhb
  obtain ⟨k0, hk0⟩ : ∃ k0, k0 = enterH hb tm #[11, 12] asg' body' := ⟨_, rfl⟩
  have k0s : k0.size = k.size + 5 := by rw [hk0]; simp only [enterH, Hp.size_push]; omega
  have k0r : k0.ro = k.ro := by rw [hk0]; simp only [enterH, Hp.ro_push]; exact hrb
  have k0g : ∀ c, c < k.size + 3 → k0.get c = hb.get c := fun c hc => by rw [hk0]; unfold enterH; rw [get_push_ne (by simp only [Hp.size_push]; omega), get_push_ne (by omega)]
  have k0d : k0.get (k.size + 3) = some (.defd false) := by rw [hk0]; unfold enterH; rw [get_push_ne (by simp only [Hp.size_push]; omega), ← hs, get_push_self]
  have k0l : k0.get (k.size + 4) = some (.loop .ready none tm #[11, 12] asg' body' (k.size + 3)) := by rw [hk0]; unfold enterH; rw [Hp.get_push, if_pos (by simp only [Hp.size_push]; omega), hs]
  have k0k : Keeps k k0 := ⟨by omega, fun c hc => by rw [k0g c (by omega), hkb.get c hc]⟩
  rw [← hk0]
  have dk := d0.keep k0k k0r
  obtain ⟨pb, pc, bv, qb, g1, g2, a1, a2, a3, a4, a5, a6, a7, a8, a9, a10⟩ := dk
  have hbuf := DiskAt.buf (pb := pb) a2
  have r1 := run_rows1 (I := I) (N := N) (k := k0) (b := b) (C := k.size + 2) (l := k.size + 4) (p := fun c => qb = some c) J.rows1 hbuf (fun c hc => (a6 c hc).1) (by have := hwf.rows; omega) (by have := hwf.rows; omega) ((k0g _ (by omega)).trans e2) (by omega) g1 a3
    (fun i h => (∃ P, DiskAt S h b (P, D.2) ∧ downL keep P (D.2.1.drop i) i = downL keep D.1 D.2.1 0) ∧ Chg (· = pb) k0 h)
    (fun i h hi => ⟨hi.2.1, by have := hi.2.1; have := hi.2.2.1; omega, fun c hc => hi.2.2.2 c (a6 c hc).1 (a6 c hc).2.2.1⟩)
    (by
      rintro i h h' ⟨⟨P, i1, i2⟩, i3⟩ hk hr
      exact ⟨⟨P, i1.keep hk hr, i2⟩, i3.trans (Chg.of hk hr)⟩)
    (by
      rintro i h x ⟨⟨P, i1, i2⟩, i3⟩ hx cs hcs
      have hpk := (hS pb a8).2
      have i5 : h.get (k.size + 4) = some (.loop .ready none tm #[11, 12] asg' body' (k.size + 3)) := (i3.2.2 _ (by omega) (by omega)).trans k0l
      have i6 := (i3.2.2 b (by have := (hS b a7).2; omega) a5).trans g1
      obtain ⟨M, rfl⟩ : ∃ M, N = M + 2 := ⟨N - 2, by omega⟩
      refine ⟨M + 1, rfl, ?_⟩
      have his := i3.1
      have hir := i3.2.1
      have hil := (List.getElem?_eq_some_iff.1 hx).1
      have hxm : x ∈ D.2.1 := List.mem_of_getElem? hx
      have hsec := hwf.sec x hxm
      have hPl : P.length = D.1.length := by
        have h1 := downL_len keep (D.2.1.drop i) P i
        have h2 := downL_len keep D.2.1 D.1 0
        rw [i2] at h1; omega
      obtain ⟨l', rfl, hx1, rfl, hf⟩ := R167_inv hcs
      have hy64 : x.2.length = 64 := hf.len
      have tk : x.2.take 64 = x.2 := List.take_of_length_le (by omega)
      have o1 := flat_all1 hf
      have rol : h.ro ≤ k.size + 4 := by omega
      have rh : ∀ j, (h.ro ≤ h.size + j) = True := fun j => by simp; omega
      have rh0 : (h.ro ≤ h.size) = True := by simp; omega
      have j0 : h.get k.size = _ := ((i3.2.2 _ (by omega) (by omega)).trans (k0g _ (by omega))).trans e0
      have j1 : h.get (k.size + 1) = _ := ((i3.2.2 _ (by omega) (by omega)).trans (k0g _ (by omega))).trans e1
      have m0 : k.size < h.size := by omega
      have m1 : k.size + 1 < h.size := by omega
      have m4 : k.size + 4 < h.size := by omega
      have x41 : (k.size = k.size + 4) = False := by simp
      have key : Ex (fun u h' => u = .bool true ∧ (∃ P, DiskAt S h' b (P, D.2) ∧ downL keep P (D.2.1.drop (i + 1)) (i + 1) = downL keep D.1 D.2.1 0) ∧ Chg (· = pb) k0 h') (evalV Try.prog I (M + 1) (.yield (k.size + 4)) #[.int .i64 (i : Int), .agg ([Value.int .i64 x.1] ++ x.2).toArray] h) := by
        refine ex_hide fun Q hQ => ?_
        rw [evalV_yield i5 rfl ea eb, zip_pair, htm]
        simp (maxDischargeDepth := 16) only [z08, z09, z0d, z0e, z0p, z0q, z0s, z0t, z0u, z0v, z11, z1f, z1g, z1w, z1x, z2o, z2y, z2z, z34, z3b, z3p, z3w, z44, z46, z49, z4c, z4e, z4f, z4g, z4h, z4i, z4p, z4q, z4r, z4t, z4u, z4z, z53, z5f, z72, Nat.reduceAdd, ↓reduceIte, Hp.wr, tSizex154, tZerox154, splice_tail, hy64, o1, rh0]
        refine Kasg_heap (Ex Q) fun h1 hh1 => ?_
        have gl : h1.get (k.size + 4) = some (.loop .ready none tm #[11, 12] asg' body' (k.size + 3)) := by rw [hh1, get_set_ne (by omega), get_push_ne (by omega)]; exact i5
        have gr : h1.get h.size = some (.cells (Value.int .i64 x.1 :: x.2).toArray true) := by rw [hh1, get_set_self]
        have kh1 : Keeps h h1 := by rw [hh1]; exact (by repeat (first | assumption | exact Keeps.refl _ | refine Keeps.push ?_ _ | refine Keeps.set ?_ (by first | omega | (simp only [Hp.size_push, Hp.size_setB]; omega)) _))
        have sh1 : h1.size = h.size + 1 := by rw [hh1]; simp only [Hp.size_setB, Hp.size_push]
        have rh1 : h1.ro = h.ro := by rw [hh1]; simp only [Hp.ro_setB, Hp.ro_push]
        clear hh1
        rw [Kasg_normal gl (by omega)]
        obtain ⟨h1b, hh1b⟩ : ∃ h1b, h1b = h1.setB (k.size + 4) (some (.loop .busy none tm #[11, 12] asg' body' (k.size + 3))) := ⟨_, rfl⟩
        rw [← hh1b]
        have z0 : h1b.get k.size = _ := ((by rw [hh1b]; exact get_set_ne (by omega)) : h1b.get k.size = h1.get k.size).trans ((kh1.get _ m0).trans j0)
        have z1 : h1b.get (k.size + 1) = _ := ((by rw [hh1b]; exact get_set_ne (by omega)) : h1b.get (k.size + 1) = h1.get (k.size + 1)).trans ((kh1.get _ m1).trans j1)
        have zr : h1b.get h.size = _ := ((by rw [hh1b]; exact get_set_ne (by omega)) : h1b.get h.size = h1.get h.size).trans gr
        have sz : h1b.size = h.size + 1 := by rw [hh1b]; simpa using sh1
        have rz : h1b.ro = h.ro := by rw [hh1b]; exact rh1
        have cz : Chg S k h1b := by
          refine ⟨by omega, by omega, fun c hc hs => ?_⟩
          rw [hh1b, get_set_ne (by omega), kh1.get c (by omega), i3.2.2 c (by omega) (fun e => hs (e ▸ a8)), k0k.get c hc]
        have dz : DiskAt S h1b b (P, D.2) := i1.mono (by omega) rz (fun c hc => by have := (hS c hc).2; rw [hh1b, get_set_ne (by omega), kh1.get c (by omega)])
        simp (maxDischargeDepth := 16) only [z08, z09, z0q, z0s, z0t, z0v, z0z, z10, z1e, z1l, z1v, z2x, z3b, z3h, z4e, z4f, z4g, z4h, z4i, z4j, z4k, z4l, z4m, z4n, z4s, z4t, z4u, evalC_block, ↓reduceIte, Hp.cell, tPartx169, z0, hg]
        refine ex_any (Ex Q) (hgo i M h1b hil (by omega) cz).ex ?_
        rintro _ h3 ⟨k3, r3, rfl⟩
        have s3 := k3.size
        have y0 : h3.get k.size = _ := (k3.get _ (by omega)).trans z0
        have y1 : h3.get (k.size + 1) = _ := (k3.get _ (by omega)).trans z1
        have yr : h3.get h.size = _ := (k3.get _ (by omega)).trans zr
        have yl : h3.get (k.size + 4) = some (.loop .busy none tm #[11, 12] asg' body' (k.size + 3)) := by rw [k3.get _ (by omega), hh1b, get_set_self]
        have dz3 := dz.keep k3 r3
        have hbk := (hS b a7).2
        have yb : h3.get b = _ := (k3.get _ (by omega)).trans (((by rw [hh1b]; exact get_set_ne (by omega)) : h1b.get b = h1.get b).trans ((kh1.get _ (by omega)).trans i6))
        have cc : ∀ c, c < k0.size → c ≠ pb → c ≠ k.size + 4 → h3.get c = k0.get c := fun c hc hs hne => by
          rw [k3.get c (by omega), hh1b, get_set_ne hne, kh1.get c (by omega)]; exact i3.2.2 c hc hs
        have hdrop : D.2.1.drop i = x :: D.2.1.drop (i + 1) := by rw [List.drop_eq_getElem_cons hil]; congr 1; rw [List.getElem?_eq_getElem hil] at hx; exact Option.some.inj hx
        cases hki : keep i with
        | false =>
          simp (maxDischargeDepth := 16) only [z04, z0a, z0c, z0d, z0e, z0h, z0p, z0s, z0t, z0v, z3b, z4e, z4f, z4g, z4h, z4i]
          rw [Kbody_normal yl (by omega)]
          rw [hQ]
          refine ⟨_, _, rfl, rfl, ⟨P, dz3.mono (by simp) rfl (fun c hc => by have := (hS c hc).2; exact get_set_ne (by omega)), ?_⟩, ?_⟩
          · rw [← i2, hdrop, downL, hki]; rfl
          · refine ⟨by simp only [Hp.size_setB]; omega, by simp only [Hp.ro_setB]; omega, fun c hc hs => ?_⟩
            by_cases hce : c = k.size + 4
            · subst hce; rw [get_set_self, k0l]
            · rw [get_set_ne hce]; exact cc c hc hs hce
        | true =>
          simp (maxDischargeDepth := 16) only [z08, z0a, z0b, z0d, z0e, z0p, z0q, z0s, z0t, z0v, z0z, z1e, z1l, z1v, z2x, z3b, z3h, z3x, z3y, z3z, z41, z46, z4e, z4f, z4g, z4h, z4i, z4j, z4k, z4l, z4m, z4n, z4p, z4q, z4s, z4t, z4u, z4v, z4z, z53, Nat.reduceAdd, Nat.reduceSub, ↓reduceIte, Hp.cell, Hp.row, hasBx98, tPartx154, tPartx180, y1, yr, hy64, tk]
          refine ex_any (Ex Q) (run_downP (N := M) (x := x) (cs := Value.int .i64 x.1 :: x.2) (p := nop) J.down (by omega) dz3 yb (R167_mk (x := x) hx1 ⟨rfl, hf⟩) ⟨hsec.1, by show x.1 < (P.length : Int); omega⟩) ?_
          rintro _ h4 ⟨rfl, d4, c4, -⟩
          have s4 := c4.1
          have yl4 : h4.get (k.size + 4) = some (.loop .busy none tm #[11, 12] asg' body' (k.size + 3)) := (c4.2.2 _ (by omega) (by omega)).trans yl
          simp (maxDischargeDepth := 16) only [z0d, z0h, z0p, z0s, z0t, z4g, z4h, z4i]
          rw [Kbody_normal yl4 (by have := c4.2.1; omega)]
          rw [hQ]
          refine ⟨_, _, rfl, rfl, ⟨P.set x.1.toNat x.2, d4.mono (by simp) rfl (fun c hc => by have := (hS c hc).2; exact get_set_ne (by omega)), ?_⟩, ?_⟩
          · rw [← i2, hdrop, downL, hki]; rfl
          · refine ⟨by simp only [Hp.size_setB]; omega, by have := c4.2.1; simp only [Hp.ro_setB]; omega, fun c hc hs => ?_⟩
            by_cases hce : c = k.size + 4
            · subst hce; rw [get_set_self, k0l]
            · rw [get_set_ne hce, c4.2.2 c (by omega) hs]; exact cc c hc hs hce
      obtain ⟨u, h', e, rfl, h5⟩ := key
      exact ⟨h', e, h5⟩)
    ⟨⟨D.1, d0.keep k0k k0r, by simp⟩, Chg.refl _⟩
  obtain ⟨v, h2, er, ⟨P, f1, f2⟩, f3⟩ := r1
  have hpk := (hS pb a8).2
  have f5 := (f3.2.2 _ (by omega) (by omega)).trans k0l
  have f3s := f3.1
  have f3r := f3.2.1
  refine ⟨100, #[.func (.yield (k.size + 4)) #[] #[], .pointer (some ⟨k.size + 2, 0, none⟩)], v, h2, .normal, h2.setB (k.size + 4) (some (.loop .exhausted none tm #[11, 12] asg' body' (k.size + 3))), ?_, er, by rw [hs]; exact leave_normal f5 (by simp) (by omega), ?_⟩
  · simp (maxDischargeDepth := 16) only [z0v, z3a, z3b, z3h, z4e, z4f, z4s, z4t, z4u, Nat.reduceAdd, ↓reduceIte, hs, hasBx100]
  have w0 : h2.get (k.size + 3) = some (.defd false) := (f3.2.2 _ (by omega) (by omega)).trans k0d
  obtain ⟨pb4, pc4, bv4, qb4, u1, u2, t1, t2, t3, t4, t5, t6, t7, t8, t9, t10⟩ := f1
  have x44 : (b = k.size + 4) = False := by have := (hS b a7).2; simp; omega
  have x43 : ∀ j, (k.size + j = b) = False := fun j => by have := (hS b a7).2; simp; omega
  have rb : (h2.ro ≤ b) = True := by simp; exact (t9 b t7).1
  simp (maxDischargeDepth := 16) only [z08, z0d, z0e, z0h, z0n, z0p, z0q, z0s, z0t, z0u, z0v, z0w, z0z, z10, z16, z1c, z1f, z1w, z1x, z21, z2q, z2w, z2y, z35, z3b, z3s, z3v, z3w, z44, z45, z49, z4d, z4e, z4f, z4g, z4h, z4i, z4p, z4q, z4r, z50, z51, z53, z5f, z72, Nat.reduceLeDiff, Nat.reduceAdd, ↓reduceIte, Hp.wr, tFieldAx149x1, tSizex147, htm, u1, ne_f t3, ne_f0 t3, lt_t t3, lt_t0 t3, x44, rb]
  rw [finR_mark (by rw [get_set_ne (by have := (hS b a7).2; omega), get_set_ne (by omega)]; rw [hs]; exact w0) (by simp only [Hp.ro_setB]; omega)]
  simp (maxDischargeDepth := 16) only [z3e]
  have hP : P = downL keep D.1 D.2.1 0 := by rw [← f2, List.drop_length]; rfl
  subst hP
  have hb4 := (hS b t7).2
  have hp4 := (hS pb4 t8).2
  refine ⟨_, _, rfl, rfl, ⟨pb4, pc4, .slice none 0 0, none, ?_, ?_, t1.mono (fun _ h => h) id frN, OwnC.nil, by simp only [Hp.size_setB]; omega, by simp only [Hp.size_setB]; omega, t5, fun c hc => (by cases hc), t7, t8, fun c hc => t9 c hc, ?_⟩, by simp only [Hp.size_setB]; omega, by simp only [Hp.ro_setB]; omega, fun c hc hs => ?_⟩
  · rw [get_set_ne (by omega), get_set_self]; rfl
  · rw [get_set_ne (by omega), get_set_ne t5.symm, get_set_ne (by omega)]; exact u2
  · obtain ⟨y1, y2, y3, y0, y4, y5, y6⟩ := t10
    exact ⟨y1, by simp [emptyS], by simp [emptyS], by simp [emptyS], y4, y5, y6⟩
  · rw [get_set_ne (by omega), get_set_ne (by intro e; subst e; exact hs a7), get_set_ne (by omega), f3.2.2 c (by omega) (by intro e; subst e; exact hs a8)]
    exact k0k.get c hc
end
end Go.Abs.B1
