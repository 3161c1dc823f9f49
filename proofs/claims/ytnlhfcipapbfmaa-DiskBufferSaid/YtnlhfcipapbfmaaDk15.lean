/- The disk: New, Pending. -/
import Derived.Test.YtnlhfcipapbfmaaDk14
import Derived.Test.YtnlhfcipapbfmaaAbsE
namespace Go.Abs.B1
open Go.Proofs
set_option maxRecDepth 10000
set_option maxHeartbeats 4000000
set_option linter.all false
def newS (n : Nat) : DV := (List.replicate n zeroB, [], -1, -1, false, 0)
theorem tRowPl : tRow Try.prog 110 = some (64, 64, zeroB.toArray) := tRowx110
theorem newS_wf {n : Nat} (h : n ≤ 2048) : WF (newS n) :=
  ⟨by simpa [newS] using h, by simp [newS], by simp [newS], by simp [newS], m1ok, m1ok, ⟨by rw [i64_minmax.1]; simp [newS], by rw [i64_minmax.2]; simp [newS]⟩⟩
section
variable {I : Intr} {N : Nat} {k : Hp} {S : Nat → Prop} {b : Nat} {D : DV} {p : Nat → Prop}
theorem run_New (J : IDk I) (hN : 0 < N) (hro : k.ro ≤ k.size) {n : Nat} (h1 : 1 ≤ n) (h2 : n ≤ 2048) :
    Ex (fun v k' => ∃ b, v = .tuple #[.pointer (some ⟨b, 0, none⟩), .int .i64 0] ∧ k.size ≤ b ∧ Keeps k k' ∧ k'.ro = k.ro ∧ DiskAt (fun c => k.size ≤ c ∧ c < k'.size) k' b (newS n)) (evalV Try.prog I N (.fn 36) #[.int .i64 (n : Int)] k) := by
  obtain ⟨N, rfl⟩ : ∃ n, N = n + 1 := ⟨N - 1, by omega⟩
  have q1 : ¬ (n : Int) < 1 := by omega
  have q2 : ¬ (2048 : Int) < (n : Int) := by omega
  have mk : ∀ h : Hp, aMakeSlice Try.prog 110 (.int .i64 (n : Int)) (.int .i64 (n : Int)) h = some (.slice (some ⟨h.size, 0, none⟩) n n, h.push (some (.cells (Builtin.zeroCells zeroB.toArray n) true))) := fun h => makeSlice_val tRowPl (by simp [zeroB]) (by omega) (by omega)
  rw [evalV_call (P := Try.prog) (intr := I) (f := 36) (m := 14) (rs := #[.tmp 2, .tmp 3]) J.New Try.func36 rfl rfl rfl]
  simp (maxDischargeDepth := 16) only [z04, z05, z08, z09, z0a, z0c, z0d, z0e, z0o, z0p, z0q, z0r, z0s, z0t, z0v, z0w, z0z, z10, z11, z12, z13, z1b, z1h, z1j, z1y, z2d, z2f, z2m, z2o, z2q, z3b, z3d, z3f, z3v, z3w, z49, z4a, z4e, z4f, z4g, z4h, z4i, z4j, z4k, z4l, z4m, z4n, z4o, z4p, z4q, z4r, z4s, z4t, z4u, z4w, z4x, z4y, z4z, z50, z51, z52, z53, z59, z5b, z5e, z72, z80, z81, z82, z83, Nat.reduceLeDiff, Nat.reduceAdd, Nat.reduceSub, ↓reduceIte, yielded, tBuildFx149x0, tBuildFx149x2, tBuildFx149x3, tBuildOkx149, tZerox149, q1, q2, mk]
  refine ⟨_, _, rfl, k.size + 1, rfl, by omega, (by repeat (first | assumption | exact Keeps.refl _ | refine Keeps.push ?_ _ | refine Keeps.set ?_ (by first | omega | (simp only [Hp.size_push, Hp.size_setB]; omega)) _)), rfl, k.size, Builtin.zeroCells zeroB.toArray n, .slice none 0 0, none, ?_, ?_, ?_, OwnC.nil, by simp only [Hp.size_push]; omega, by simp only [Hp.size_push]; omega, by omega, fun c hc => (by cases hc), ⟨by omega, by simp only [Hp.size_push]; omega⟩, ⟨by omega, by simp only [Hp.size_push]; omega⟩, fun c hc => ⟨by simp only [Hp.ro_push]; omega, hc.2⟩, newS_wf h2⟩
  · simp (maxDischargeDepth := 16) only [z34, z4a, ↓reduceIte, newS, List.length_replicate]
  · rw [get_push_ne (by simp), get_push_self]
  · exact rows_zero (e := R98) ⟨rfl, flat_zeroB⟩ n
theorem run_New_bad (J : IDk I) (hN : 0 < N) {n : Int} (h : n < 1 ∨ 2048 < n) : evalV Try.prog I N (.fn 36) #[.int .i64 n] k = some (.tuple #[.pointer none, .int .i64 2], k) := by
  obtain ⟨N, rfl⟩ : ∃ n, N = n + 1 := ⟨N - 1, by omega⟩
  rw [evalV_call (P := Try.prog) (intr := I) (f := 36) (m := 14) (rs := #[.tmp 2, .tmp 3]) J.New Try.func36 rfl rfl rfl]
  by_cases q1 : n < 1
  · simp (maxDischargeDepth := 16) only [z05, z08, z09, z0a, z0b, z0d, z0e, z0f, z0o, z0p, z0q, z0r, z0s, z0t, z0v, z0w, z0z, z10, z11, z12, z13, z1y, z2d, z3b, z3d, z3f, z3k, z4e, z4f, z4g, z4h, z4i, z4m, z4n, z4o, z4p, z4q, z4r, z4s, z4t, z4u, z4w, z4x, z4y, z4z, z52, z53, z59, z5a, Nat.reduceSub, ↓reduceIte, yielded, q1]
  · have q2 : 2048 < n := by omega
    simp (maxDischargeDepth := 16) only [z05, z08, z09, z0a, z0b, z0d, z0e, z0f, z0o, z0p, z0q, z0r, z0s, z0t, z0v, z0w, z0z, z10, z11, z12, z13, z1y, z2d, z2f, z3b, z3d, z3f, z4e, z4f, z4g, z4h, z4i, z4m, z4n, z4o, z4p, z4q, z4r, z4s, z4t, z4u, z4w, z4x, z4y, z4z, z52, z53, z59, z5a, z5b, z5e, Nat.reduceSub, ↓reduceIte, yielded, q1, q2]
theorem tRowInts : tRow Try.prog 95 = some (1, 8, #[.int .i64 0]) := tRowx95
theorem textInts : rowOrText (Try.prog.underlying 95) = true := by kernel_rfl
abbrev RI : Rp Int := Rp.int .i64
theorem run_Pending (J : IDk I) (hN : 60 < N) (d : DiskAt S k b D) :
    Ex (fun v k' => Keeps k k' ∧ k'.ro = k.ro ∧ ∃ q, OwnC RI k' v q (D.2.1.map (·.1)) ∧ ∀ c, q = some c → k.size ≤ c) (evalV Try.prog I N (.fn 37) #[.pointer (some ⟨b, 0, none⟩)] k) := by
  obtain ⟨N, rfl⟩ : ∃ n, N = n + 1 := ⟨N - 1, by omega⟩
  have hS := d.own
  have hro := d.ro
  have hwf := d.wf
  have d0 := d
  have rw0 : ∀ k' : Hp, evalV Try.prog I N (.fn 70) #[.pointer (some ⟨b, 0, none⟩)] k' = some (.func (.func 100) #[] #[.pointer (some ⟨k'.size, 0, none⟩)], k'.push (some (.cells #[.pointer (some ⟨b, 0, none⟩)] true))) := fun k' => run_rows J.rows (by omega)
  rw [evalV_call (P := Try.prog) (intr := I) (f := 37) (m := 18) (rs := #[.tmp 2]) J.Pending Try.func37 rfl rfl rfl]
  simp (maxDischargeDepth := 16) only [z04, z08, z09, z0a, z0c, z0d, z0e, z0p, z0q, z0s, z0t, z0v, z0w, z0x, z0z, z10, z11, z13, z1g, z1l, z2z, z3b, z3h, z4a, z4e, z4f, z4g, z4h, z4i, z4j, z4k, z4l, z4p, z4q, z4r, z4s, z4t, z4u, z4v, z4w, z4x, z4y, z4z, z53, z7i, z7m, evalC_block, Nat.reduceSub, ↓reduceIte, hasBx70, tPtrx89, tZerox95, rw0]
  refine range_rule3 (Ex _) fun asg' body' tm hb ea eb htm hhb => ?_
  have hs : hb.size = k.size + 2 := by rw [hhb]; simp only [Hp.size_push, Hp.size_setB]
  have hkb : Keeps k hb := by rw [hhb]; exact (by repeat (first | assumption | exact Keeps.refl _ | refine Keeps.push ?_ _ | refine Keeps.set ?_ (by first | omega | (simp only [Hp.size_push, Hp.size_setB]; omega)) _))
  have hrb : hb.ro = k.ro := by rw [hhb]; simp only [Hp.ro_push, Hp.ro_setB]
  have e0 : hb.get k.size = some (.cells #[.slice none 0 0] true) := by rw [hhb]; simp (maxDischargeDepth := 16) only [z34, z38, z39, z4a, ↓reduceIte]
  have e2 : hb.get (k.size + 1) = some (.cells #[.pointer (some ⟨b, 0, none⟩)] true) := by rw [hhb]; simp (maxDischargeDepth := 16) only [z34, z4a, ↓reduceIte]
  clear hhb
  obtain ⟨k0, hk0⟩ : ∃ k0, k0 = enterH hb tm #[10, 11] asg' body' := ⟨_, rfl⟩
  have k0s : k0.size = k.size + 4 := by rw [hk0]; simp only [enterH, Hp.size_push]; omega
  have k0r : k0.ro = k.ro := by rw [hk0]; simp only [enterH, Hp.ro_push]; exact hrb
  have k0g : ∀ c, c < k.size + 2 → k0.get c = hb.get c := fun c hc => by rw [hk0]; unfold enterH; rw [get_push_ne (by simp only [Hp.size_push]; omega), get_push_ne (by omega)]
  have k0d : k0.get (k.size + 2) = some (.defd false) := by rw [hk0]; unfold enterH; rw [get_push_ne (by simp only [Hp.size_push]; omega), ← hs, get_push_self]
  have k0l : k0.get (k.size + 3) = some (.loop .ready none tm #[10, 11] asg' body' (k.size + 2)) := by rw [hk0]; unfold enterH; rw [Hp.get_push, if_pos (by simp only [Hp.size_push]; omega), hs]
  have k0k : Keeps k k0 := ⟨by omega, fun c hc => by rw [k0g c (by omega), hkb.get c hc]⟩
  rw [← hk0]
  have dk := d0.keep k0k k0r
  obtain ⟨pb, pc, bv, qb, g1, g2, a1, a2, a3, a4, a5, a6, a7, a8, a9, a10⟩ := dk
  have hbuf := DiskAt.buf (pb := pb) a2
  have r1 := run_rows1 (I := I) (N := N) (k := k0) (b := b) (C := k.size + 1) (l := k.size + 3) (p := fun c => qb = some c) J.rows1 hbuf (fun c hc => (a6 c hc).1) (by have := hwf.rows; omega) (by have := hwf.rows; omega) ((k0g _ (by omega)).trans e2) (by omega) g1 a3
    (fun i h => (∃ v q, h.get k.size = some (.cells #[v] true) ∧ OwnC RI h v q ((D.2.1.take i).map (·.1)) ∧ ∀ c, q = some c → k0.size ≤ c) ∧ Chg (· = k.size) k0 h)
    (fun i h hi => ⟨hi.2.1, by have := hi.2.1; have := hi.2.2.1; omega, fun c hc => hi.2.2.2 c (a6 c hc).1 (by have := hS c (a6 c hc).2.2.2; omega)⟩)
    (by
      rintro i h h' ⟨⟨v, q, i1, i2, i4⟩, i3⟩ hk hr
      have := i3.1
      exact ⟨⟨v, q, (hk.get _ (by omega)).trans i1, i2.mono hk.size (fun c hc => hk.get c (by rcases hc with rfl; exact i2.lt)), i4⟩, i3.trans (Chg.of hk hr)⟩)
    (by
      rintro i h x ⟨⟨v, q, i1, i2, i4⟩, i3⟩ hx cs hcs
      obtain ⟨M, rfl⟩ : ∃ M, N = M + 2 := ⟨N - 2, by omega⟩
      refine ⟨M + 1, rfl, ?_⟩
      have his := i3.1
      have hir := i3.2.1
      have hil := (List.getElem?_eq_some_iff.1 hx).1
      have i5 : h.get (k.size + 3) = some (.loop .ready none tm #[10, 11] asg' body' (k.size + 2)) := (i3.2.2 _ (by omega) (by omega)).trans k0l
      obtain ⟨l', rfl, hx1, rfl, hf⟩ := R167_inv hcs
      have hy64 : x.2.length = 64 := hf.len
      have tk : x.2.take 64 = x.2 := List.take_of_length_le (by omega)
      have o1 := flat_all1 hf
      have rh : ∀ j, (h.ro ≤ h.size + j) = True := fun j => by simp; omega
      have rh0 : (h.ro ≤ h.size) = True := by simp; omega
      have m0 : k.size < h.size := by omega
      have htake : (D.2.1.take (i + 1)).map (·.1) = (D.2.1.take i).map (·.1) ++ [x.1] := by
        rw [List.take_succ, hx]; simp
      have key : Ex (fun u h' => u = .bool true ∧ (∃ v q, h'.get k.size = some (.cells #[v] true) ∧ OwnC RI h' v q ((D.2.1.take (i + 1)).map (·.1)) ∧ ∀ c, q = some c → k0.size ≤ c) ∧ Chg (· = k.size) k0 h') (evalV Try.prog I (M + 1) (.yield (k.size + 3)) #[.int .i64 (i : Int), .agg ([Value.int .i64 x.1] ++ x.2).toArray] h) := by
        refine ex_hide fun Q hQ => ?_
        rw [evalV_yield i5 rfl ea eb, zip_pair, htm]
        simp (maxDischargeDepth := 16) only [z08, z0d, z0p, z0q, z0s, z0t, z0u, z0v, z1f, z1g, z1w, z1x, z2o, z2y, z2z, z34, z3b, z3p, z3w, z44, z46, z49, z4c, z4e, z4f, z4g, z4h, z4i, z4p, z4q, z4r, z4t, z4u, z4z, z53, z5f, z72, Nat.reduceAdd, ↓reduceIte, Hp.wr, tSizex154, tZerox154, splice_tail, hy64, o1, rh0]
        refine Kasg_heap (Ex Q) fun h1 hh1 => ?_
        have gl : h1.get (k.size + 3) = some (.loop .ready none tm #[10, 11] asg' body' (k.size + 2)) := by rw [hh1, get_set_ne (by omega), get_push_ne (by omega)]; exact i5
        have gr : h1.get h.size = some (.cells (Value.int .i64 x.1 :: x.2).toArray true) := by rw [hh1, get_set_self]
        have kh1 : Keeps h h1 := by rw [hh1]; exact (by repeat (first | assumption | exact Keeps.refl _ | refine Keeps.push ?_ _ | refine Keeps.set ?_ (by first | omega | (simp only [Hp.size_push, Hp.size_setB]; omega)) _))
        have sh1 : h1.size = h.size + 1 := by rw [hh1]; simp only [Hp.size_setB, Hp.size_push]
        have rh1 : h1.ro = h.ro := by rw [hh1]; simp only [Hp.ro_setB, Hp.ro_push]
        clear hh1
        rw [Kasg_normal gl (by omega)]
        obtain ⟨h1b, hh1b⟩ : ∃ h1b, h1b = h1.setB (k.size + 3) (some (.loop .busy none tm #[10, 11] asg' body' (k.size + 2))) := ⟨_, rfl⟩
        rw [← hh1b]
        have z0 : h1b.get k.size = _ := ((by rw [hh1b]; exact get_set_ne (by omega)) : h1b.get k.size = h1.get k.size).trans ((kh1.get _ m0).trans i1)
        have zr : h1b.get h.size = _ := ((by rw [hh1b]; exact get_set_ne (by omega)) : h1b.get h.size = h1.get h.size).trans gr
        have sz : h1b.size = h.size + 1 := by rw [hh1b]; simpa using sh1
        have rz : h1b.ro = h.ro := by rw [hh1b]; exact rh1
        have oz : OwnC RI h1b v q ((D.2.1.take i).map (·.1)) := i2.mono (by omega) (fun c hc => by
          have h1 := i4 c hc
          have h2 : c < h.size := by rcases hc with rfl; exact i2.lt
          rw [hh1b, get_set_ne (by omega), kh1.get c h2])
        have m0z : k.size < h1b.size := by omega
        have mrz : h.size < h1b.size := by omega
        obtain ⟨av, cv, hv⟩ := oz.form
        simp (maxDischargeDepth := 16) only [z08, z0q, z0s, z0t, z0v, z0z, z16, z1e, z1i, z1m, z1v, z2m, z2w, z2x, z3b, z4e, z4f, z4g, z4h, z4i, z4j, z4k, z4l, z4m, z4n, z4p, z4q, z4r, z4z, z50, z51, z53, z54, z7d, z88, evalC_block, Nat.reduceLeDiff, Hp.cell, tFieldAx154x0, tPartx3, tPartx95, tRowx95, z0, zr, ne_f m0z, ne_f0 m0z, lt_t m0z, lt_t0 m0z, ne_f mrz, ne_f0 mrz, lt_t mrz, lt_t0 mrz]
        have hql : ∀ c, q = some c → c < h1b.size := fun c hc => by subst hc; exact oz.lt
        refine ex_any (Ex Q) (OwnC.append_ex (P := Try.prog) (t := 95) (tx := 95) (e := RI) (x := x.1) (lit := h1b.size) (cs := #[.int .i64 x.1]) tRowInts textInts rfl (by omega) (oz.mono (by simp only [Hp.size_push]; omega) (fun c hc => get_push_ne (by have := hql c hc; omega))) (fun c hc => by simp only [Hp.ro_push]; have := i4 c hc; omega) get_push_self ⟨rfl, hx1⟩ (by simp [flatB_int]) (by have := hwf.rows; simp only [List.length_map, List.length_take]; omega) (by have := hwf.rows; simp only [List.length_map, List.length_take, capOpen]; omega)) ?_
        rintro v' h3 ⟨b', ho, hbs, r3, g3⟩
        simp only [Hp.size_push, Hp.ro_push] at hbs r3 g3
        have hq3 : ∀ c, c < k0.size → q ≠ some c := fun c hc e => by have := i4 c e; omega
        have f3 : ∀ c, c < k0.size → h3.get c = h1b.get c := fun c hc => by rw [g3 c (by omega) (hq3 c hc), get_push_ne (by omega)]
        have s3 : h1b.size + 1 ≤ h3.size := by omega
        have y0 : h3.get k.size = _ := (f3 _ (by omega)).trans z0
        have yl : h3.get (k.size + 3) = some (.loop .busy none tm #[10, 11] asg' body' (k.size + 2)) := by rw [f3 _ (by omega), hh1b, get_set_self]
        have rk3 : (h3.ro ≤ k.size) = True := by simp; omega
        obtain ⟨cv', rfl⟩ := ho.form_some
        simp (maxDischargeDepth := 16) only [z0d, z0h, z0p, z0q, z0s, z0t, z0u, z0v, z1f, z1w, z1x, z2q, z2y, z3b, z3s, z3v, z3w, z44, z45, z46, z49, z4e, z4f, z4g, z4h, z4i, z4p, z4q, z4r, z53, z5f, z72, ↓reduceIte, Hp.wr, tSizex95, y0, rk3]
        rw [Kbody_normal (by rw [get_set_ne (by omega)]; exact yl) (by simp only [Hp.ro_setB]; omega)]
        rw [hQ]
        refine ⟨_, _, rfl, rfl, ⟨_, some b', by rw [get_set_ne (by omega), get_set_self], ?_, fun c hc => ?_⟩, ?_⟩
        · rw [htake]
          exact ho.mono (by simp) (fun c hc => by
            cases hc
            have hbk : k0.size ≤ b' := by
              rcases hbs with ⟨e, _⟩ | ⟨e, _⟩
              · exact i4 b' e
              · omega
            rw [get_set_ne (by omega), get_set_ne (by omega)])
        · cases hc
          rcases hbs with ⟨e, _⟩ | ⟨e, _⟩
          · exact i4 b' e
          · omega
        · refine ⟨by simp only [Hp.size_setB]; omega, by simp only [Hp.ro_setB]; omega, fun c hc hne => ?_⟩
          by_cases hce : c = k.size + 3
          · subst hce; rw [get_set_self, k0l]
          · rw [get_set_ne hce, get_set_ne hne, f3 c hc, hh1b, get_set_ne hce, kh1.get c (by omega)]; exact i3.2.2 c hc hne
      obtain ⟨u, h', e, rfl, h5⟩ := key
      exact ⟨h', e, h5⟩)
    ⟨⟨_, none, (k0g _ (by omega)).trans e0, OwnC.nil, fun c hc => by cases hc⟩, Chg.refl _⟩
  obtain ⟨u, h2, er, ⟨v, q, f1, f2, f4⟩, f3⟩ := r1
  rw [List.take_length] at f2
  have f3s := f3.1
  have f3r := f3.2.1
  have f5 := (f3.2.2 (k.size + 3) (by omega) (by omega)).trans k0l
  have w0 : h2.get (k.size + 2) = some (.defd false) := (f3.2.2 _ (by omega) (by omega)).trans k0d
  obtain ⟨av, cv, hv⟩ := f2.form
  refine ⟨100, #[.func (.yield (k.size + 3)) #[] #[], .pointer (some ⟨k.size + 1, 0, none⟩)], u, h2, .normal, h2.setB (k.size + 3) (some (.loop .exhausted none tm #[10, 11] asg' body' (k.size + 2))), ?_, er, by rw [hs]; exact leave_normal f5 (by simp) (by omega), ?_⟩
  · simp (maxDischargeDepth := 16) only [z0v, z3a, z3b, z3h, z4e, z4f, z4s, z4t, z4u, Nat.reduceAdd, ↓reduceIte, hs, hasBx100]
  have x44 : (k.size = k.size + 3) = False := by simp
  simp (maxDischargeDepth := 16) only [z05, z08, z09, z0d, z0e, z0h, z0o, z0p, z0q, z0s, z0t, z0v, z0z, z11, z1e, z1v, z2x, z35, z3b, z4e, z4f, z4g, z4h, z4i, z4m, z4n, ↓reduceIte, Hp.cell, tPartx95, htm, f1, x44]
  rw [finR_mark (by rw [get_set_ne (by omega)]; rw [hs]; exact w0) (by simp only [Hp.ro_setB]; omega)]
  simp (maxDischargeDepth := 16) only [z3b, z3c, z3f, z4e, z4f, z4z]
  refine ⟨_, _, rfl, ⟨by simp only [Hp.size_setB]; omega, fun c hc => ?_⟩, by simp only [Hp.ro_setB]; omega, q, f2.mono (by simp) (fun c hc => ?_), fun c hc => by have := f4 c hc; omega⟩
  · rw [get_set_ne (by omega), get_set_ne (by omega), f3.2.2 c (by omega) (by omega)]; exact k0k.get c hc
  · have := f4 c hc
    rw [get_set_ne (by omega), get_set_ne (by omega)]
end
end Go.Abs.B1
