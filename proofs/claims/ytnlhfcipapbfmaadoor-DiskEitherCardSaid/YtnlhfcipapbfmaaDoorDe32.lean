/- The disk: Copy. -/
import Derived.Test.YtnlhfcipapbfmaaDoorDe31
namespace Go.Abs.B1d
open Go.Proofs
set_option maxRecDepth 10000
set_option maxHeartbeats 4000000
set_option linter.all false
theorem copy_whole {P : Program} {st tx : TypeId} {s n c c' pb q : Nat} {pc old : Array Value} {ow : Bool} {h : Hp} (ht : tElem P st = some s) (hs : 0 < s) (hn : 0 < n) (hp : h.get pb = some (.cells pc ow)) (hpc : pc.size = n * s) (hq : h.get q = some (.cells old true)) (ho : old.size = n * s) (hro : h.ro ≤ q) (hone : pc.toList.all oneC = true) :
    aCopy P #[st, tx] #[.slice (some ⟨q, 0, none⟩) n c, .slice (some ⟨pb, 0, none⟩) n c'] h = some (goInt n, h.setB q (some (.cells pc true))) := by
  have hns : 0 < n * s := Nat.mul_pos hn hs
  unfold tElem at ht
  cases hu : P.underlying st with
  | none => rw [hu] at ht; cases ht
  | some u =>
    rw [hu] at ht
    cases u <;> simp only [] at ht <;> first | (cases ht; done) | skip
    rename_i e
    have hsz : pureP P (sizeOf e) = some s := by rw [pureP_sizeOf]; exact ht
    have hrow : h.row ⟨pb, 0, none⟩ (n * s) = some pc := by
      simp only [Hp.row, hp]
      rw [if_pos (by omega), Nat.zero_add, ← hpc]; simp
    have hf : aFirst s n (.slice (some ⟨pb, 0, none⟩) n c') h = some pc := by
      simp only [aFirst]
      rw [if_neg (by omega), hrow]
    have hw : h.wr ⟨q, 0, none⟩ pc.toList = some (h.setB q (some (.cells pc true))) := by
      simp only [Hp.wr, hq]
      rw [if_pos ⟨hro, by simp; omega, hone⟩, splice_full (by simp; omega)]
    have hne : pc ≠ #[] := by rintro rfl; simp at hpc; omega
    simp [aCopy, hu, hsz, aLen, hf, hw, hne]
theorem tRowBuf : tRow Tryd.prog 67 = some (65, 72, zRow) := tRowx67
theorem textBuf : rowOrText (Tryd.prog.underlying 67) = true := by kernel_rfl
theorem ownTo {α : Type} {e : Rp α} {k m : Hp} {v : Value} {q : Option Nat} {xs : List α} {A : Nat → Prop} (o : OwnC e k v q xs) (hs : k.size ≤ m.size) (f : flatB v = false → ∀ p : Nat → Prop, (∀ b, p b → A b) → Fr p k m) (hA : ∀ b, q = some b → A b) : OwnC e m v q xs := by
  refine o.mono hs (fun b hb => ?_)
  rcases o with ⟨_, h, _⟩ | ⟨b', c, cells, h1, h2, h3, h4, h5, h6, h7, h8, h9, h10⟩
  · rw [h] at hb; cases hb
  · rw [h2] at hb; cases hb
    have hA' := hA _ h2
    rw [f (by rw [h1]; simp [flatB]) _ (fun c (hc : c = _) => by subst hc; exact hA') _ cells true rfl h7 (fun c hc => vin_flat (h8 c hc)), h7]
section
variable {I : Intr} {N : Nat} {k : Hp} {S : Nat → Prop} {b : Nat} {D : DV} {p : Nat → Prop}
theorem run_CloneRow (J : IDk I) (hN : 0 < N) (hro : k.ro ≤ k.size) {v : Value} {ks : List T62} (r : (Rp.slice R62).r false p k [v] ks) (hp : ∀ c, p c → c < k.size) (hl : ks.length ≤ 1000) :
    Al k (fun k' u => ∃ q, OwnC R62 k' u q ks ∧ ∀ c, q = some c → k.size ≤ c) (evalV Tryd.prog I N (.fn 37) #[v] k) := by
  obtain ⟨N, rfl⟩ : ∃ n, N = n + 1 := ⟨N - 1, by omega⟩
  obtain ⟨a, c, rfl, -, -⟩ := slice_form r
  have ow := (Rp.slice R62).rone r _ (List.mem_singleton.2 rfl)
  rw [evalV_call (P := Tryd.prog) (intr := I) (f := 37) (m := 8) (rs := #[.tmp 2]) J.CloneRow Tryd.func37 rfl rfl rfl]
  cases a with
  | none =>
    have h0 : ks = [] := by
      obtain ⟨a, c', e', -, -, h⟩ := r
      rcases h with ⟨h, -⟩ | ⟨b, off, cells, ow, h, -⟩
      · exact h
      · subst h; simp at e'
    subst h0
    simp (maxDischargeDepth := 16) only [z05, z08, z09, z0a, z0b, z0d, z0e, z0f, z0o, z0p, z0q, z0s, z0t, z0v, z0w, z0z, z10, z11, z13, z3b, z3c, z3f, z4e, z4f, z4g, z4h, z4i, z4p, z4q, z4r, z4s, z4t, z4u, z4w, z4x, z4y, z4z, z53, z7k, z7n, Nat.reduceSub, tSlix67]
    exact Al.done (by repeat (first | assumption | exact Keeps.refl _ | refine Keeps.push ?_ _ | refine Keeps.set ?_ (by first | omega | (simp only [Hp.size_push, Hp.size_setB]; omega)) _)) rfl ⟨none, OwnC.nil, fun c h => by cases h⟩
  | some a =>
    simp (maxDischargeDepth := 16) only [z04, z08, z09, z0a, z0c, z0d, z0e, z0p, z0q, z0s, z0t, z0v, z0w, z0z, z10, z11, z13, z1i, z1m, z3b, z4e, z4f, z4g, z4h, z4i, z4j, z4k, z4l, z4p, z4q, z4r, z4s, z4t, z4u, z4w, z4x, z4y, z50, z53, z7k, z7m, z86, Nat.reduceSub, tRowx67, tSlix67]
    refine ex_any (Al k _) (Al.ex (copy_c (P := Tryd.prog) (t := 67) (tx := 67) (e := R62) (q := p) (ys := ks) (b := k.size) flatRow tRowBuf textBuf rfl (by decide) ((Rp.slice R62).mono r (fun _ h => h) id (Keeps.fr (h := k) (by repeat (first | assumption | exact Keeps.refl _ | refine Keeps.push ?_ _ | refine Keeps.set ?_ (by first | omega | (simp only [Hp.size_push, Hp.size_setB]; omega)) _)) hp)) (by simp only [Hp.size_push]; omega) (by simp (maxDischargeDepth := 16) only [z34, ↓reduceIte]) (by simp only [Hp.ro_push]; omega) (fun c hc => by have := hp c hc; simp only [Hp.size_push]; omega) (fun hc => by have := hp _ hc; omega) (by omega) (by unfold capOpen; omega))) ?_
    rintro u k2 ⟨hk2, hr2, q, hq, hql, o2⟩
    simp only [Hp.size_push, Hp.ro_push] at hq hr2
    simp (maxDischargeDepth := 16) only [z05, z0d, z0e, z0o, z0p, z0q, z0s, z0t, z0v, z11, z3b, z3c, z3f, z4e, z4f, z4g, z4h, z4i, z4z]
    exact Al.done (Keeps.trans (by repeat (first | assumption | exact Keeps.refl _ | refine Keeps.push ?_ _ | refine Keeps.set ?_ (by first | omega | (simp only [Hp.size_push, Hp.size_setB]; omega)) _)) hk2) hr2 ⟨some q, o2, fun c hc => by cases hc; omega⟩
theorem run_Copy (J : IDk I) (hN : 60 < N) (d : DiskAt S k b D) (hD : 0 < D.1.length) :
    Ex (fun v k' => ∃ b', v = .pointer (some ⟨b', 0, none⟩) ∧ Keeps k k' ∧ k'.ro = k.ro ∧ DiskAt (fun c => k.size ≤ c ∧ c < k'.size) k' b' D) (evalV Tryd.prog I N (.fn 22) #[.pointer (some ⟨b, 0, none⟩)] k) := by
  obtain ⟨N, rfl⟩ : ∃ n, N = n + 1 := ⟨N - 1, by omega⟩
  have hS := d.own
  have hro := d.ro
  have wf := d.wf
  obtain ⟨pb, pc, bv, qb, g1, g2, a1, a2, a3, a4, a5, a6, a7, a8, a9, a10⟩ := d
  have obv : oneC bv = true := (Rp.slice R62).rone a2.rp bv (List.mem_singleton.2 rfl)
  have r0 : (k.ro ≤ k.size) = True := by simp [hro]
  rw [evalV_call (P := Tryd.prog) (intr := I) (f := 22) (m := 29) (rs := #[.tmp 2]) J.Copy Tryd.func22 rfl rfl rfl]
  simp (maxDischargeDepth := 16) only [z04, z08, z09, z0a, z0c, z0d, z0e, z0p, z0q, z0s, z0t, z0u, z0v, z0w, z0z, z10, z11, z13, z1c, z1e, z1f, z1g, z1v, z1w, z1x, z21, z2o, z2x, z2y, z2z, z34, z3b, z3p, z3q, z3s, z3v, z3w, z3x, z3y, z3z, z41, z43, z44, z45, z46, z49, z4c, z4e, z4f, z4g, z4h, z4i, z4p, z4q, z4r, z4s, z4t, z4u, z4w, z4x, z4y, z4z, z53, z5f, z72, z7i, z7m, z7t, Nat.reduceAdd, Nat.reduceSub, ↓reduceIte, Hp.row, Hp.wr, tPartx69, tPtrx25, tSizex69, tZerox69, g1, ne_f a3, ne_f0 a3, lt_t a3, lt_t0 a3, obv, r0]
  refine evalDraw_heap (Ex _) fun h hh => ?_
  have sh : h.size = k.size + 1 := by rw [hh]; simp only [Hp.size_setB, Hp.size_push]
  have rh : h.ro = k.ro := by rw [hh]; simp only [Hp.ro_setB, Hp.ro_push]
  have kh : Keeps k h := by rw [hh]; exact (by repeat (first | assumption | exact Keeps.refl _ | refine Keeps.push ?_ _ | refine Keeps.set ?_ (by first | omega | (simp only [Hp.size_push, Hp.size_setB]; omega)) _))
  have w0 : h.get k.size = some (.cells #[.slice (some ⟨pb, 0, none⟩) D.1.length D.1.length, bv, .int .i64 D.2.2.1, .int .i64 D.2.2.2.1, .bool D.2.2.2.2.1, .int .i64 D.2.2.2.2.2] true) := by rw [hh, get_set_self]
  have w1 := (kh.get b a3).trans g1
  clear hh
  have n0 : k.size < h.size := by omega
  have n1 : b < h.size := by omega
  have vp : ∀ kept bits, vokB (allow h.size kept bits) (.slice (some ⟨pb, 0, none⟩) D.1.length D.1.length) = true := fun kept bits => vb_old (vin_slice.2 (show pb < h.size by omega))
  have vb : ∀ kept bits, vokB (allow h.size kept bits) bv = true := fun kept bits => vb_old (vin_mono (fun c hc => by have := (a6 c hc).1; omega) ((Rp.slice R62).rvin a2.rp bv (List.mem_singleton.2 rfl)))
  rw [evalDraw_modes _ _ [(0, 0, 1), (0, 1, 3), (0, 3, 7), (2, 7, 15), (0, 15, 31), (2, 31, 63), (0, 0, 64), (0, 64, 192), (0, 192, 448), (2, 448, 960), (2, 960, 1984), (0, 2047, 4095), (4, 4095, 8191), (0, 8191, 16383), (4, 16383, 32767)] (by kernel_rfl)]
  simp (maxDischargeDepth := 16) only [z0t, z0v, z0z, z10, z16, z1c, z1e, z1j, z1p, z1r, z1v, z21, z2w, z2x, z3b, z46, z4e, z4f, z4g, z4h, z4i, z4m, z4n, z50, z51, z53, z54, z5a, z5j, z5l, z5u, z5x, z62, z6a, z6h, z6p, z6t, z6v, z6x, z70, z71, Nat.reduceAdd, ↓reduceIte, keepR, Hp.cell, tFieldAx69x0, tLenx66, tPartx66, w1, ne_f n0, ne_f0 n0, lt_t n0, lt_t0 n0, ne_f n1, ne_f0 n1, lt_t n1, lt_t0 n1, vp]
  have hlen := wf.len
  have mkA : Al (h.view 31 []) (fun k' v => v = .slice (some ⟨h.size, 0, none⟩) D.1.length D.1.length ∧ k'.size = h.size + 1 ∧ k'.get h.size = some (.cells (Builtin.zeroCells zeroB.toArray D.1.length) true)) (aMakeSlice Tryd.prog 66 (.int .i64 (D.1.length : Int)) (.int .i64 (D.1.length : Int)) (h.view 31 [])) :=
    ⟨_, _, makeSlice_val tRowPl (by simp [zeroB]) (by omega) (by omega), (by repeat (first | assumption | exact Keeps.refl _ | refine Keeps.push ?_ _ | refine Keeps.set ?_ (by first | omega | (simp only [Hp.size_push, Hp.size_setB]; omega)) _)), by simp only [Hp.ro_push], by rw [view_size], by simp only [Hp.size_push]; rw [view_size], by rw [← view_size (h := h) (bits := 31) (kept := [])]; exact get_push_self⟩
  refine kd2Q (Ex _) mkA (fun v k' _ hv => by rw [hv.1]; exact vin_slice.2 (.inr ⟨Nat.le_refl _, by omega⟩)) (by decide) ?_
  rintro _ k3 m hk3 ⟨rfl, e3, g3⟩ ms mr mg mf
  have hzf : ∀ c ∈ Builtin.zeroCells zeroB.toArray D.1.length, flatB c = true := fun w hw => rows.flatE flatBlk (rows_zero (e := R29) (o := true) (p := nop) (k := h) (z := zeroB.toArray) (x := zeroB) ⟨rfl, flat_zeroB⟩ _) w (Array.mem_toList_iff.2 hw)
  have gm := mf (by simp [flatB]) (· = h.size) (fun c hc => by subst hc; exact ⟨by omega, .inr (Nat.le_refl _)⟩) h.size _ _ rfl g3 (fun c hc => vin_flat (hzf c hc))
  rw [e3] at ms ⊢
  have y1 := (mg b n1).trans w1
  have nm1 : b < m.size := by omega
  have vwb := fun bits => ((view_keepS (h := m) (bits := bits) (j := 5) (lo := h.size) (hi := h.size + 1) (kept := []) n1).trans view_nil).trans y1
  have alb : ∀ kept bits, allow h.size kept bits b = true := fun kept bits => allow_old n1
  simp (maxDischargeDepth := 16) only [z0t, z0v, z0x, z0z, z10, z16, z1c, z1e, z1l, z1v, z21, z2w, z2x, z3b, z3h, z46, z4e, z4f, z4g, z4h, z4i, z4j, z4k, z4l, z4m, z4n, z4o, z4s, z4u, z4v, z50, z51, z53, z5j, z5l, z5u, z5x, z6a, z6t, z6x, Nat.reduceAdd, ↓reduceIte, keepR, Hp.cell, hasBx37, tFieldAx69x1, tPartx67, vwb, alb, vb]
  have rbv : (Rp.slice R62).r false (fun c => qb = some c) (m.view 960 (keepS 5 h.size (h.size + 1) [])) [bv] D.2.1 := (Rp.slice R62).mono a2.rp (fun _ h => h) (by simp) (Fr.of fun c hc => by
    have hc' := (a6 c hc).1
    rw [view_keepS (by omega), view_nil, mg c (by omega), kh.get c hc'])
  refine kd2Q (Ex _) (run_CloneRow (N := N) J (by omega) (by rw [view_ro, view_size]; omega) rbv (fun c hc => by have := (a6 c hc).1; rw [view_size]; omega) (by have := wf.rows; omega)) (fun v k' hk ⟨q, o, hq⟩ => vin_mono (fun c hc => .inr ⟨by have := hq c hc; rw [view_size] at this; exact this, by subst hc; exact o.lt⟩) ((Rp.slice R62).rvin o.rp v (List.mem_singleton.2 rfl))) (by decide) ?_
  rintro u k4 m2 hk4 ⟨q, o, hq⟩ ms2 mr2 mg2 mf2
  have s4 := hk4.size
  rw [view_size] at s4 hq
  have om := ownTo o (by omega) mf2 (fun c hc => ⟨by subst hc; exact o.lt, .inr (by have := hq c hc; omega)⟩)
  have ou : oneC u = true := (Rp.slice R62).rone o.rp u (List.mem_singleton.2 rfl)
  clear o mf mf2 hk3 hk4
  have gm2 := (mg2 h.size (by omega)).trans gm
  have z0 := (mg2 k.size (by omega)).trans ((mg k.size n0).trans w0)
  have z1 := (mg2 b nm1).trans y1
  have zp := (mg2 pb (by omega)).trans ((mg pb (by omega)).trans ((kh.get pb a4).trans g2))
  have nn0 : k.size < m2.size := by omega
  have rr0 : (m2.ro ≤ k.size) = True := by simp; omega
  obtain ⟨au, cu, rfl⟩ := om.form
  have al0 : ∀ kept bits, allow h.size kept bits k.size = true := fun kept bits => allow_old n0
  simp (maxDischargeDepth := 16) only [z09, z0d, z0e, z0t, z0u, z0v, z0z, z16, z1f, z1w, z1x, z2q, z2w, z2y, z33, z3b, z3s, z3v, z3w, z44, z45, z46, z49, z4b, z4d, z4e, z4f, z4g, z4h, z4i, z4p, z4q, z4r, z50, z51, z53, z54, z5f, z5j, z5k, z5t, z5u, z66, z6a, z72, z7t, z8d, Nat.reduceLeDiff, Nat.reduceAdd, ↓reduceIte, keepR, Hp.wr, tFieldAx69x0, tFieldAx69x1, tSizex66, tSizex67, z0, ne_f nn0, ne_f0 nn0, lt_t nn0, lt_t0 nn0, rr0, ou, al0]
  refine evalDraw_heap (Ex _) fun h6 hh6 => ?_
  have s6 : h6.size = m2.size := by rw [hh6]; simp only [Hp.size_setB]
  have r6 : h6.ro = m2.ro := by rw [hh6]; simp only [Hp.ro_setB]
  have x0 : h6.get k.size = some (.cells #[.slice (some ⟨h.size, 0, none⟩) D.1.length D.1.length, .slice au D.2.1.length cu, .int .i64 D.2.2.1, .int .i64 D.2.2.2.1, .bool D.2.2.2.2.1, .int .i64 D.2.2.2.2.2] true) := by rw [hh6, get_set_self]
  have xo : ∀ c, c ≠ k.size → h6.get c = m2.get c := fun c hc => by rw [hh6, get_set_ne hc, get_set_ne hc]
  clear hh6
  have x1 := (xo b (by omega)).trans z1
  have xp := (xo pb (by omega)).trans zp
  have xn := (xo h.size (by omega)).trans gm2
  have l0 : k.size < h6.size := by omega
  have l1 : b < h6.size := by omega
  have vs : ∀ (q n c : Nat), q < h6.size → ∀ kept bits, vokB (allow h6.size kept bits) (.slice (some ⟨q, 0, none⟩) n c) = true := fun q n c hq kept bits => vb_old (vin_slice.2 hq)
  have vs1 := vs pb D.1.length D.1.length (by omega)
  have vs2 := vs h.size D.1.length D.1.length (by omega)
  rw [evalDraw_modes _ _ [(0, 0, 1), (2, 1, 3), (0, 0, 4), (0, 4, 12), (0, 12, 28), (2, 28, 60), (4, 63, 127)] (by kernel_rfl)]
  simp (maxDischargeDepth := 16) only [z0t, z0v, z0z, z10, z16, z1c, z1e, z1n, z1v, z21, z2w, z2x, z3b, z46, z4e, z4f, z4g, z4h, z4i, z4j, z4k, z4l, z4m, z4n, z50, z51, z53, z54, z5a, z5j, z5l, z5u, z5x, z6a, z6h, z6p, z6t, z6v, z6x, z70, z71, z8d, Nat.reduceAdd, ↓reduceIte, keepR, Hp.cell, tFieldAx69x0, tPartx66, x0, x1, ne_f l0, ne_f0 l0, lt_t l0, lt_t0 l0, ne_f l1, ne_f0 l1, lt_t l1, lt_t0 l1, vs1, vs2]
  have hz : (Builtin.zeroCells zeroB.toArray D.1.length).size = D.1.length * 64 := by rw [zeroCells_size]; rfl
  have hpc : pc.size = D.1.length * 64 := by have := a1.len; rw [show R29.len = 64 from rfl] at this; simpa using this
  have hpf : ∀ c ∈ pc.toList, flatB c = true := rows.flatE flatBlk a1
  have hpo : pc.toList.all oneC = true := list_all_one a1.one
  refine ex_kd1 (S := fun v k' => v = goInt D.1.length ∧ k' = h6.setB h.size (some (.cells pc true))) (Ex _) ⟨_, _, copy_whole (s := 64) (n := D.1.length) (by kernel_rfl) (by decide) hD xp hpc xn hz (by omega) hpo, rfl, rfl⟩ (fun v k' h => by rw [h.2]; simp only [Hp.size_setB]; exact Nat.le_refl _) (fun v k' h => by rw [h.1]; exact vin_flat flatB_int) (by decide) ?_
  rintro _ _ ⟨rfl, rfl⟩
  simp (maxDischargeDepth := 16) only [z05, z08, z09, z0d, z0e, z0o, z0p, z0q, z0s, z0t, z0v, z11, z3b, z3c, z3f, z4b, z4e, z4f, z4g, z4h, z4i, z4z, z5t, Nat.reduceAdd]
  have kf : Keeps k (h6.setB h.size (some (.cells pc true))) := ⟨by simp only [Hp.size_setB]; omega, fun c hc => by rw [get_set_ne (by omega), xo c (by omega), mg2 c (by omega), mg c (by omega), kh.get c hc]⟩
  have qf : ∀ c, q = some c → m.size ≤ c ∧ c < m2.size := fun c hc => ⟨hq c hc, by subst hc; exact om.lt⟩
  refine ⟨_, _, rfl, k.size, rfl, kf, by simp only [Hp.ro_setB]; omega, h.size, pc, .slice au D.2.1.length cu, q, (get_set_ne (by omega)).trans x0, get_set_self, a1.mono (fun _ h => h) id frN, om.mono (by simp only [Hp.size_setB]; omega) (fun c hc => by have := qf c hc; rw [get_set_ne (by omega), xo c (by omega)]), by simp only [Hp.size_setB]; omega, by simp only [Hp.size_setB]; omega, by omega, fun c hc => by have := qf c hc; simp only [Hp.size_setB]; omega, by simp only [Hp.size_setB]; omega, by simp only [Hp.size_setB]; omega, fun c hc => ?_, wf⟩
  simp only [Hp.ro_setB, Hp.size_setB] at hc ⊢
  omega
end
end Go.Abs.B1d
