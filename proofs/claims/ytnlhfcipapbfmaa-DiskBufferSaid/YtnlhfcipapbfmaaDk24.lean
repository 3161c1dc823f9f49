/- What a deed does to a disk. -/
import Derived.Test.YtnlhfcipapbfmaaDk23
namespace Go.Abs.B1
open Go.Proofs
set_option maxRecDepth 10000
set_option maxHeartbeats 4000000
set_option linter.all false
/-- What a deed makes of a disk, the block that is told, what comes of it. -/
def deedS (D : DV) (x : T94) : DV × List Value × Int :=
  if kindN x = 5 then readS D x.2.1
  else if kindN x = 6 then ((syncS D).1, zeroB, (syncS D).2)
  else if kindN x = 7 then ((armS D x.2.2.1).1, zeroB, (armS D x.2.2.1).2)
  else if kindN x = 8 then ((failS D x.2.2.1).1, zeroB, (failS D x.2.2.1).2)
  else if kindN x = 9 then (crashS D (x.2.2.2.2.take 30), zeroB, 0)
  else ((writeS D x.2.1 (blockL x.2.2.2.1)).1, zeroB, (writeS D x.2.1 (blockL x.2.2.2.1)).2)
theorem kd2Q {P : Program} {call : CallF} {k : Hp} {R : Type} {S : Hp → Value → Prop} {r : Option (Value × Hp)} {ops : Array Oper} {bits bits' s0 j : Nat} {l : List (Oper × Nat × Nat × Nat)} {kept : List (Nat × Nat × Nat)} {Ka : Act → Hp → Option R} {d : Option Tmp} {a : Act} (Q : Option R → Prop) (x : Al (k.view bits kept) S r)
    (hv : ∀ v k', Keeps (k.view bits kept) k' → S k' v → vin (fun b => b < s0 ∨ k.size ≤ b ∧ b < k'.size) v) (hb : bits'.testBit j = true)
    (H : ∀ v k' m, Keeps (k.view bits kept) k' → S k' v → m.size = k'.size → m.ro = k.ro → (∀ b, b < k.size → m.get b = k.get b) → (flatB v = false → ∀ p : Nat → Prop, (∀ b, p b → b < k'.size ∧ (b < s0 ∨ k.size ≤ b)) → Fr p k' m) →
      Q (evalDM P call ops s0 l (j + 1) (a.put d v) m (keepS j k.size k'.size kept) false Ka)) :
    Q (KD2 P call ops bits bits' s0 j l kept Ka d a k r) := by
  obtain ⟨v, k', rfl, h1, h2, h3⟩ := x
  exact KD2_fresh Q h1 (hv v k' h1 h3) hb fun m m1 m2 m3 m4 => H v k' m h1 h3 m1 m2 m3 m4
section
variable {I : Intr} {N : Nat} {k : Hp} {S : Nat → Prop} {b : Nat} {D : DV} {p : Nat → Prop}
/-- Ahead of it boxes were made; behind it only they were turned. -/
theorem Step.boxed {h k1 k2 k3 : Hp} {E : DV} (x : Step S k1 k2 b E) (hk : Keeps h k1) (hr : k1.ro = h.ro) (hro : h.ro ≤ h.size) (hS : ∀ c, S c → c < h.size) (hs : k2.size ≤ k3.size) (hr3 : k3.ro = k2.ro) (hg : ∀ c, c < h.size ∨ k1.size ≤ c ∧ c < k2.size → k3.get c = k2.get c) : Step S h k3 b E := by
  have s1 := hk.size
  have s2 := x.2.1
  have r2 := x.2.2.1
  refine ⟨((x.1.mono hs hr3 fun c hc => ?_).wide (fun c hc => ?_) (fun c hc => ?_)), by omega, by omega, fun c hc hn => ?_⟩
  · rcases hc with hc | hc
    · exact hg c (.inl (hS c hc))
    · exact hg c (.inr hc)
  · rcases hc with hc | hc
    · exact .inl hc
    · exact .inr ⟨by omega, by omega⟩
  · rcases hc with hc | hc
    · have := x.1.own c (.inl hc); omega
    · omega
  · rw [hg c (.inl hc), x.2.2.2 c (by omega) hn, hk.get c hc]
theorem run_does (J : IDk I) (L : ILw I) (hN : 120 < N) (d : DiskAt S k b D) {cs : List Value} {x : T94} (r : R94.r false p k cs x) (hp : ∀ c, p c → c < k.size ∧ ¬ S c) :
    Ex (fun v k' => v = .tuple #[.agg (deedS D x).2.1.toArray, .int .i64 (deedS D x).2.2] ∧ Step S k k' b (deedS D x).1 ∧ flatOk K98 (deedS D x).2.1) (evalV Try.prog I N (.fn 38) #[.pointer (some ⟨b, 0, none⟩), .agg cs.toArray] k) := by
  obtain ⟨N, rfl⟩ : ∃ n, N = n + 1 := ⟨N - 1, by omega⟩
  have hS := d.own
  have hro := d.ro
  have r00 := r
  obtain ⟨v1, rfl, b1, b2, b3, b4, r5⟩ := R94_inv r
  have o1 := (Rp.slice Rp.bool).rone r5 v1 (List.mem_singleton.2 rfl)
  have hzb : zeroB.length = 64 := rfl
  have oz : zeroB.all oneC = true := rfl
  have tkz : zeroB.take 64 = zeroB := rfl
  have spzz : splice zeroB.toArray 0 zeroB = zeroB.toArray := splice_full (by simp)
  have hz64 : 64 ≤ zeroB.length := by decide
  rw [evalV_call (P := Try.prog) (intr := I) (f := 38) (m := 48) (rs := #[.cell 4 98, .tmp 5]) L.does Try.func38 rfl rfl rfl]
  simp (maxDischargeDepth := 16) only [z08, z09, z0d, z0e, z0p, z0q, z0s, z0t, z0v, z0w, z0x, z0z, z11, z1e, z1g, z1h, z1l, z1v, z2o, z2x, z2z, z34, z38, z39, z3b, z3h, z3x, z3y, z3z, z41, z43, z46, z4a, z4e, z4f, z4g, z4h, z4i, z4j, z4k, z4l, z4p, z4q, z4r, z4s, z4t, z4u, z4v, z4w, z4x, z4y, z4z, z53, Nat.reduceAdd, Nat.reduceSub, ↓reduceIte, Hp.row, hasBx39, tPartx94, tZerox98]
  refine ex_any (Ex _) (Al.ex (run_kind L (N := N) (p := p) (by omega) (R94.mono r00 (fun _ h => h) id (Keeps.fr (h := k) (by repeat (first | assumption | exact Keeps.refl _ | refine Keeps.push ?_ _ | refine Keeps.set ?_ (by first | omega | (simp only [Hp.size_push, Hp.size_setB]; omega)) _)) fun c hc => (hp c hc).1)))) ?_
  rintro _ k1 ⟨hk1, hr1, rfl⟩
  simp only [Hp.ro_push] at hr1
  have s1 := hk1.size
  simp only [Hp.size_push] at s1
  have kk : Keeps k k1 := Keeps.trans (by repeat (first | assumption | exact Keeps.refl _ | refine Keeps.push ?_ _ | refine Keeps.set ?_ (by first | omega | (simp only [Hp.size_push, Hp.size_setB]; omega)) _)) hk1
  have g0 := hk1.get k.size (by simp only [Hp.size_push]; omega)
  have g1 := hk1.get (k.size + 1) (by simp only [Hp.size_push]; omega)
  simp (maxDischargeDepth := 16) only [z34, z38, z39, z4a, ↓reduceIte] at g0 g1
  have g1 : k1.get (k.size + 1) = some (.cells zeroB.toArray true) := g1
  have n0 : k.size < k1.size := by omega
  have n1 : k.size + 1 < k1.size := by omega
  have rr1 : ∀ h' : Hp, h'.ro = k1.ro → (h'.ro ≤ k.size + 1) = True := fun h' h => by rw [h]; simp; omega
  have d1 := d.keep kk hr1
  have hSk : ∀ c, S c → c < k.size := fun c hc => (hS c hc).2
  have nS : ∀ j, ¬ S (k.size + j) := fun j hj => by have := (hS _ hj).2; omega
  have nS0 : ¬ S k.size := nS 0
  have r1 := R94.mono r00 (fun _ h => h) id (kk.fr fun c hc => (hp c hc).1)
  clear hk1
  simp (maxDischargeDepth := 16) only [z08, z09, z0a, z0d, z0e, z0p, z0q, z0s, z0t, z0v, z0w, z0z, z11, z13, z2b, z3b, z4e, z4f, z4g, z4h, z4i, evalC_block]
  by_cases h5 : kindN x = 5
  · have eS : deedS D x = readS D x.2.1 := by unfold deedS; rw [if_pos h5]
    rw [eS]
    simp (maxDischargeDepth := 16) only [z08, z0b, z0q, z0s, z0t, z0v, z0x, z0z, z10, z16, z1e, z1l, z1v, z2w, z2x, z3b, z3h, z4e, z4f, z4g, z4h, z4i, z4j, z4k, z4l, z4m, z4n, z4o, z4s, z4u, z4v, z50, z51, z53, z5a, ↓reduceIte, Hp.cell, hasBx46, tFieldAx94x1, tPartx3, eq_true h5, g0, ne_f n0, ne_f0 n0, lt_t n0, lt_t0 n0, ne_f n1, ne_f0 n1, lt_t n1, lt_t0 n1]
    refine ex_any (Ex _) (run_Read (N := N) J.Read J.act J.power J.burns J.Read1 J.held J.IndexFunc J.held1 (by omega) d1) ?_
    rintro _ k2 ⟨rfl, d2, c2, hf⟩
    have st : Step S k1 k2 b (readS D x.2.1).1 := Step.of d2 c2 (by omega)
    have s2 := c2.1
    have z1 := (c2.2.2 (k.size + 1) n1 (nS 1)).trans g1
    have m1 : k.size + 1 < k2.size := by omega
    have q1 := rr1 k2 c2.2.1
    have hl : (readS D x.2.1).2.1.length = 64 := hf.len
    have hl64 : 64 ≤ (readS D x.2.1).2.1.length := by omega
    have tk : (readS D x.2.1).2.1.take 64 = (readS D x.2.1).2.1 := List.take_of_length_le (by omega)
    have spz : splice zeroB.toArray 0 (readS D x.2.1).2.1 = (readS D x.2.1).2.1.toArray := splice_full (by rw [hl]; rfl)
    have spr : splice (readS D x.2.1).2.1.toArray 0 (readS D x.2.1).2.1 = (readS D x.2.1).2.1.toArray := splice_full (by simp)
    simp (maxDischargeDepth := 16) only [z05, z08, z09, z0d, z0e, z0h, z0o, z0p, z0q, z0s, z0t, z0u, z0v, z0z, z10, z11, z1a, z1e, z1f, z1v, z1w, z1x, z2o, z2t, z2x, z2y, z33, z3b, z3d, z3f, z3g, z3x, z3y, z3z, z46, z49, z4d, z4e, z4f, z4g, z4h, z4i, z4m, z4n, z4o, z4p, z4z, z52, z53, z72, Nat.reduceSub, ↓reduceIte, Hp.row, Hp.wr, tPartx98, tSizex98, z1, ne_f m1, ne_f0 m1, lt_t m1, lt_t0 m1, q1, hz64, hl, flat_all1 hf, tk, spz, spr]
    exact ⟨_, _, rfl, rfl, Step.boxed st kk hr1 hro hSk (by simp only [Hp.size_setB]; omega) (by simp only [Hp.ro_setB]) (fun c hc => by rw [get_set_ne (by omega), get_set_ne (by omega)]), hf⟩
  by_cases h6 : kindN x = 6
  · have eS : deedS D x = ((syncS D).1, zeroB, (syncS D).2) := by unfold deedS; rw [if_neg h5, if_pos h6]
    rw [eS]
    simp (maxDischargeDepth := 16) only [z08, z09, z0a, z0b, z0c, z0d, z0e, z0p, z0q, z0s, z0t, z0v, z0w, z0x, z0z, z10, z11, z13, z1l, z2b, z3b, z3h, z4e, z4f, z4g, z4h, z4i, z4j, z4k, z4l, z4s, z4u, z4v, z5a, z5b, ↓reduceIte, hasBx71, h5, eq_true h6, ne_f n0, ne_f0 n0, lt_t n0, lt_t0 n0, ne_f n1, ne_f0 n1, lt_t n1, lt_t0 n1]
    refine ex_any (Ex _) (run_Sync (N := N) J (by omega) d1) ?_
    rintro _ k2 ⟨rfl, st⟩
    have s2 := st.2.1
    have z1 := (st.2.2.2 (k.size + 1) n1 (nS 1)).trans g1
    have m1 : k.size + 1 < k2.size := by omega
    have q1 := rr1 k2 st.2.2.1
    simp (maxDischargeDepth := 16) only [z05, z08, z09, z0d, z0e, z0h, z0o, z0p, z0q, z0s, z0t, z0u, z0v, z0z, z10, z11, z1e, z1f, z1v, z1w, z1x, z2o, z2x, z2y, z33, z3b, z3d, z3f, z3g, z3x, z3y, z3z, z46, z49, z4e, z4f, z4g, z4h, z4i, z4p, z4z, z52, z53, z72, Nat.reduceSub, ↓reduceIte, Hp.row, Hp.wr, tPartx98, tSizex98, z1, ne_f m1, ne_f0 m1, lt_t m1, lt_t0 m1, q1, hzb, oz, tkz, spzz]
    exact ⟨_, _, rfl, rfl, Step.boxed st kk hr1 hro hSk (by simp only [Hp.size_setB]; omega) (by simp only [Hp.ro_setB]) (fun c hc => by rw [get_set_ne (by omega)]), flat_zeroB⟩
  by_cases h7 : kindN x = 7
  · have eS : deedS D x = ((armS D x.2.2.1).1, zeroB, (armS D x.2.2.1).2) := by unfold deedS; rw [if_neg h5, if_neg h6, if_pos h7]
    rw [eS]
    simp (maxDischargeDepth := 16) only [z08, z09, z0a, z0b, z0c, z0d, z0e, z0p, z0q, z0s, z0t, z0v, z0w, z0x, z0z, z10, z11, z13, z16, z1e, z1l, z1v, z2b, z2w, z2x, z3b, z3h, z4e, z4f, z4g, z4h, z4i, z4j, z4k, z4l, z4m, z4n, z4o, z4s, z4u, z4v, z50, z51, z53, z5a, z5b, ↓reduceIte, Hp.cell, hasBx72, tFieldAx94x2, tPartx3, h5, h6, eq_true h7, g0, ne_f n0, ne_f0 n0, lt_t n0, lt_t0 n0, ne_f n1, ne_f0 n1, lt_t n1, lt_t0 n1]
    refine ex_any (Ex _) (run_Arm (N := N) J (by omega) d1 b3) ?_
    rintro _ k2 ⟨rfl, st⟩
    have s2 := st.2.1
    have z1 := (st.2.2.2 (k.size + 1) n1 (nS 1)).trans g1
    have m1 : k.size + 1 < k2.size := by omega
    have q1 := rr1 k2 st.2.2.1
    simp (maxDischargeDepth := 16) only [z05, z08, z09, z0d, z0e, z0h, z0o, z0p, z0q, z0s, z0t, z0u, z0v, z0z, z10, z11, z1e, z1f, z1v, z1w, z1x, z2o, z2x, z2y, z33, z3b, z3d, z3f, z3g, z3x, z3y, z3z, z46, z49, z4e, z4f, z4g, z4h, z4i, z4p, z4z, z52, z53, z72, Nat.reduceSub, ↓reduceIte, Hp.row, Hp.wr, tPartx98, tSizex98, z1, ne_f m1, ne_f0 m1, lt_t m1, lt_t0 m1, q1, hzb, oz, tkz, spzz]
    exact ⟨_, _, rfl, rfl, Step.boxed st kk hr1 hro hSk (by simp only [Hp.size_setB]; omega) (by simp only [Hp.ro_setB]) (fun c hc => by rw [get_set_ne (by omega)]), flat_zeroB⟩
  by_cases h8 : kindN x = 8
  · have eS : deedS D x = ((failS D x.2.2.1).1, zeroB, (failS D x.2.2.1).2) := by unfold deedS; rw [if_neg h5, if_neg h6, if_neg h7, if_pos h8]
    rw [eS]
    simp (maxDischargeDepth := 16) only [z08, z09, z0a, z0b, z0c, z0d, z0e, z0p, z0q, z0s, z0t, z0v, z0w, z0x, z0z, z10, z11, z13, z16, z1e, z1l, z1v, z2b, z2w, z2x, z3b, z3h, z4e, z4f, z4g, z4h, z4i, z4j, z4k, z4l, z4m, z4n, z4o, z4s, z4u, z4v, z50, z51, z53, z5a, z5b, ↓reduceIte, Hp.cell, hasBx73, tFieldAx94x2, tPartx3, h5, h6, h7, eq_true h8, g0, ne_f n0, ne_f0 n0, lt_t n0, lt_t0 n0, ne_f n1, ne_f0 n1, lt_t n1, lt_t0 n1]
    refine ex_any (Ex _) (run_Fail (N := N) J (by omega) d1 b3) ?_
    rintro _ k2 ⟨rfl, st⟩
    have s2 := st.2.1
    have z1 := (st.2.2.2 (k.size + 1) n1 (nS 1)).trans g1
    have m1 : k.size + 1 < k2.size := by omega
    have q1 := rr1 k2 st.2.2.1
    simp (maxDischargeDepth := 16) only [z05, z08, z09, z0d, z0e, z0h, z0o, z0p, z0q, z0s, z0t, z0u, z0v, z0z, z10, z11, z1e, z1f, z1v, z1w, z1x, z2o, z2x, z2y, z33, z3b, z3d, z3f, z3g, z3x, z3y, z3z, z46, z49, z4e, z4f, z4g, z4h, z4i, z4p, z4z, z52, z53, z72, Nat.reduceSub, ↓reduceIte, Hp.row, Hp.wr, tPartx98, tSizex98, z1, ne_f m1, ne_f0 m1, lt_t m1, lt_t0 m1, q1, hzb, oz, tkz, spzz]
    exact ⟨_, _, rfl, rfl, Step.boxed st kk hr1 hro hSk (by simp only [Hp.size_setB]; omega) (by simp only [Hp.ro_setB]) (fun c hc => by rw [get_set_ne (by omega)]), flat_zeroB⟩
  by_cases h9 : kindN x = 9
  · have eS : deedS D x = (crashS D (x.2.2.2.2.take 30), zeroB, 0) := by unfold deedS; rw [if_neg h5, if_neg h6, if_neg h7, if_neg h8, if_pos h9]
    rw [eS]
    simp (maxDischargeDepth := 16) only [z08, z09, z0a, z0b, z0c, z0d, z0e, z0p, z0q, z0s, z0t, z0v, z0w, z0x, z0z, z10, z11, z13, z1e, z1l, z1v, z2b, z2x, z3b, z3h, z3x, z3y, z3z, z41, z43, z46, z4e, z4f, z4g, z4h, z4i, z4j, z4k, z4l, z4p, z4q, z4r, z4s, z4u, z4v, z4z, z53, z5a, z5b, Nat.reduceAdd, Nat.reduceSub, ↓reduceIte, Hp.row, hasBx74, tPartx94, h5, h6, h7, h8, eq_true h9, g0, ne_f n0, ne_f0 n0, lt_t n0, lt_t0 n0, ne_f n1, ne_f0 n1, lt_t n1, lt_t0 n1]
    refine ex_any (Ex _) (Al.ex (run_keep L (N := N) (by omega) (by omega) r1 (fun c hc => by have := (hp c hc).1; omega))) ?_
    rintro u k3 ⟨hk3, hr3, q, ok, hq⟩
    have s3 := hk3.size
    have kk3 : Keeps k k3 := kk.trans hk3
    have z0 := (hk3.get _ n0).trans g0
    have g1 := (hk3.get _ n1).trans g1
    have n1 : k.size + 1 < k3.size := by omega
    have rr1 : ∀ h' : Hp, h'.ro = k3.ro → (h'.ro ≤ k.size + 1) = True := fun h' h => by rw [h]; simp; omega
    simp (maxDischargeDepth := 16) only [z0q, z0s, z0t, z0v, z0x, z1l, z3b, z3h, z4e, z4f, z4g, z4h, z4i, z4j, z4k, z4l, z4s, z4u, z4v, ↓reduceIte, hasBx44]
    refine ex_any (Ex _) (run_Crash (N := N) (p := fun c => k1.size ≤ c ∧ c < k3.size) J (by omega) (d1.keep hk3 hr3) (ownFr ok (fun c hc => by subst hc; exact ⟨hq c rfl, ok.lt⟩)) (fun c hc => ⟨hc.2, fun hs => by have := hSk c hs; omega⟩)) ?_
    rintro _ k2 ⟨rfl, st⟩
    have hr1 : k3.ro = k.ro := by omega
    have kk := kk3
    have s2 := st.2.1
    have z1 := (st.2.2.2 (k.size + 1) n1 (nS 1)).trans g1
    have m1 : k.size + 1 < k2.size := by omega
    have q1 := rr1 k2 st.2.2.1
    simp (maxDischargeDepth := 16) only [z05, z08, z09, z0d, z0e, z0h, z0o, z0p, z0q, z0s, z0t, z0u, z0v, z0z, z10, z11, z1e, z1f, z1v, z1w, z1x, z2o, z2x, z2y, z33, z3b, z3d, z3f, z3g, z3x, z3y, z3z, z46, z49, z4e, z4f, z4g, z4h, z4i, z4p, z4z, z52, z53, z72, Nat.reduceSub, ↓reduceIte, Hp.row, Hp.wr, tPartx98, tSizex98, z1, ne_f m1, ne_f0 m1, lt_t m1, lt_t0 m1, q1, hzb, oz, tkz, spzz]
    exact ⟨_, _, rfl, rfl, Step.boxed st kk hr1 hro hSk (by simp only [Hp.size_setB]; omega) (by simp only [Hp.ro_setB]) (fun c hc => by rw [get_set_ne (by omega)]), flat_zeroB⟩
  have eS : deedS D x = ((writeS D x.2.1 (blockL x.2.2.2.1)).1, zeroB, (writeS D x.2.1 (blockL x.2.2.2.1)).2) := by unfold deedS; rw [if_neg h5, if_neg h6, if_neg h7, if_neg h8, if_neg h9]
  rw [eS]
  simp (maxDischargeDepth := 16) only [z08, z09, z0a, z0c, z0d, z0e, z0p, z0q, z0s, z0t, z0v, z0w, z0z, z11, z13, z2b, z3b, z4e, z4f, z4g, z4h, z4i, z5b, z7t, h5, h6, h7, h8, h9]
  have nb : b < k1.size := by have := d1.own; obtain ⟨pb, pc, bv, qb, -, -, -, -, a3, -⟩ := d1; exact a3
  rw [evalDraw_modes _ _ [(0, 0, 1), (0, 0, 2), (2, 2, 6), (0, 0, 8), (2, 8, 24), (2, 24, 56), (4, 63, 127), (0, 127, 255)] (by kernel_rfl)]
  simp (maxDischargeDepth := 16) only [z0t, z0v, z0x, z0z, z10, z16, z1e, z1l, z1v, z2w, z2x, z3b, z3h, z46, z4e, z4f, z4g, z4h, z4i, z4j, z4k, z4l, z4m, z4n, z4o, z4s, z4u, z4v, z50, z51, z53, z5a, z5j, z5l, z5u, z5x, z62, z6a, z6h, z6j, z6t, z6v, z6x, z70, z71, Nat.reduceAdd, ↓reduceIte, keepR, Hp.cell, hasBx75, tFieldAx94x1, tFieldAx94x3, tPartx3, tPartx5, g0, ne_f n0, ne_f0 n0, lt_t n0, lt_t0 n0, ne_f n1, ne_f0 n1, lt_t n1, lt_t0 n1, ne_f nb, ne_f0 nb, lt_t nb, lt_t0 nb]
  refine kd2Q (Ex _) (run_block L (N := N) (f := x.2.2.2.1) (by omega) (by rw [view_ro, view_size]; omega) b4) (fun v k' _ h => by rw [h]; exact vin_agg (vin_flatOk (blockL_flat b4))) (by decide) ?_
  rintro _ k3 m hk3 rfl ms mr mg -
  have s3 := hk3.size
  rw [view_size] at s3
  have km : Keeps k1 m := ⟨by omega, mg⟩
  have kkm : Keeps k m := kk.trans km
  simp (maxDischargeDepth := 16) only [z0t, z0v, z0x, z1l, z3b, z3h, z4e, z4f, z4g, z4h, z4i, z4j, z4k, z4l, z4s, z4u, z4v, z8d, Nat.reduceAdd, ↓reduceIte, hasBx69]
  have hrm : m.ro = k.ro := by omega
  refine ex_kd1 (Ex _) (run_Write (N := N) J (by omega) (d1.keep km mr) (blockL_flat b4)) (fun v k' h => h.2.2.1) (fun v k' h => by rw [h.1]; exact vin_flat flatB_int) (by decide) ?_
  rintro _ k2 ⟨rfl, st⟩
  have g1 := (mg _ n1).trans g1
  have n1 : k.size + 1 < m.size := by omega
  have rr1 : ∀ h' : Hp, h'.ro = m.ro → (h'.ro ≤ k.size + 1) = True := fun h' h => by rw [h]; simp; omega
  have hr1 := hrm
  have kk := kkm
  have s2 := st.2.1
  have z1 := (st.2.2.2 (k.size + 1) n1 (nS 1)).trans g1
  have m1 : k.size + 1 < k2.size := by omega
  have q1 := rr1 k2 st.2.2.1
  simp (maxDischargeDepth := 16) only [z05, z08, z09, z0d, z0e, z0h, z0o, z0p, z0q, z0s, z0t, z0u, z0v, z0z, z10, z11, z1e, z1f, z1v, z1w, z1x, z2o, z2x, z2y, z33, z3b, z3d, z3f, z3g, z3x, z3y, z3z, z46, z49, z4e, z4f, z4g, z4h, z4i, z4p, z4z, z52, z53, z5j, z5t, z5u, z62, z72, Nat.reduceAdd, Nat.reduceSub, ↓reduceIte, Hp.row, Hp.wr, tPartx98, tSizex98, z1, ne_f m1, ne_f0 m1, lt_t m1, lt_t0 m1, q1, hzb, oz, tkz, spzz]
  exact ⟨_, _, rfl, rfl, Step.boxed st kk hr1 hro hSk (by simp only [Hp.size_setB]; omega) (by simp only [Hp.ro_setB]) (fun c hc => by rw [get_set_ne (by omega)]), flat_zeroB⟩

end
end Go.Abs.B1
