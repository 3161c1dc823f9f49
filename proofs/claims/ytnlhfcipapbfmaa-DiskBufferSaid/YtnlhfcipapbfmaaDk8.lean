/- The disk: a row goes down; the first row goes. -/
import Derived.Test.YtnlhfcipapbfmaaDk7
namespace Go.Abs.B1
open Go.Proofs
set_option maxRecDepth 10000
set_option maxHeartbeats 4000000
set_option linter.all false
def downS (D : DV) (x : T167) : DV := (D.1.set x.1.toNat x.2, D.2)
theorem downS_wf {D : DV} (x : T167) (h : WF D) : WF (downS D x) := by
  obtain ⟨h1, h2, h3, h0, h4, h5, h6⟩ := h
  exact ⟨by simpa [downS] using h1, h2, by simpa [downS] using h3, h0, h4, h5, h6⟩
theorem vin_flatOk {p : Nat → Prop} {K : List Sc} {cs : List Value} (h : flatOk K cs) : ∀ c ∈ cs, vin p c := fun c hc => vin_flat (h.mem c hc).1
section
variable {I : Intr} {N : Nat} {k : Hp} {S : Nat → Prop} {b : Nat} {D : DV} {p : Nat → Prop}
theorem run_downP (h0 : I 98 = none) (hN : 2 < N) (d : DiskAt S k b D) {pl : Nat} {n0 m0 : Nat} {rest : List Value} {ow : Bool} (hpl : k.get b = some (.cells (.slice (some ⟨pl, 0, none⟩) n0 m0 :: rest).toArray ow)) {cs : List Value} {x : T167} (r : R167.r false p k cs x) (hx : 0 ≤ x.1 ∧ x.1 < (D.1.length : Int)) :
    Ex (fun v k' => v = .tuple #[] ∧ DiskAt S k' b (downS D x) ∧ Chg (· = pl) k k' ∧ S pl) (evalV Try.prog I N (.fn 98) #[.pointer (some ⟨b, 0, none⟩), .agg cs.toArray] k) := by
  obtain ⟨N, rfl⟩ : ∃ n, N = n + 1 := ⟨N - 1, by omega⟩
  have hwf := downS_wf x d.wf
  obtain ⟨pb, pc, bv, qb, g1, g2, a1, a2, a3, a4, a5, a6, a7, a8, a9, a10⟩ := d
  rw [g1] at hpl
  simp only [Option.some.injEq, Blk.cells.injEq, Array.mk.injEq, List.cons.injEq, Value.slice.injEq, Addr.mk.injEq] at hpl
  obtain ⟨⟨⟨⟨rfl, -⟩, -⟩, -⟩, -⟩ := hpl
  obtain ⟨l, rfl, hx1, rfl, hf⟩ := R167_inv r
  obtain ⟨n, hn⟩ : ∃ n : Nat, x.1 = (n : Int) := ⟨x.1.toNat, by omega⟩
  have hnl : n < D.1.length := by omega
  have hl64 : x.2.length = 64 := hf.len
  have hro : k.ro ≤ k.size := by have := a9 b a7; omega
  have r1 : (k.ro ≤ pb) = True := by simp; exact (a9 pb a8).1
  have hnn : (0 ≤ (n : Int)) = True := by simp
  have hlt : ((n : Int) < (D.1.length : Int)) = True := by simp; omega
  have hpl : pc.size = D.1.length * 64 := by have := a1.len; rw [show R98.len = 64 from rfl] at this; simpa using this
  have hle : n * 64 + 64 ≤ pc.size := by
    have : (n + 1) * 64 ≤ D.1.length * 64 := Nat.mul_le_mul_right _ hnl
    omega
  have vaf := fun p => all_flat (p := p) hf
  have vbf := fun p => vb_flat (p := p) hf
  have o1 := flat_all1 hf
  have tk : x.2.take 64 = x.2 := List.take_of_length_le (by omega)
  have hset := a1.set (i := n) (x := x.2) hnl (d := x.2) ⟨rfl, hf⟩
  rw [show R98.len = 64 from rfl] at hset
  rw [evalV_call (P := Try.prog) (intr := I) (f := 98) (m := 13) (rs := #[]) h0 Try.func98 rfl rfl rfl]
  simp (maxDischargeDepth := 16) only [z08, z09, z0d, z0e, z0p, z0q, z0s, z0t, z0v, z1h, z2o, z3b, z4e, z4f, z4g, z4h, z4i, z4p, z4q, z4r, z4s, z4t, z4u, z4w, z4x, z4y, z53, z7t, Nat.reduceAdd, Nat.reduceSub]
  rw [evalDraw_modes _ _ [(0, 0, 1), (0, 1, 3), (0, 3, 7), (2, 7, 15), (0, 0, 16), (2, 16, 48), (0, 0, 64), (2, 64, 192), (0, 255, 511), (4, 511, 1023)] (by kernel_rfl)]
  simp (maxDischargeDepth := 16) only [z0d, z0n, z0t, z0u, z0v, z0z, z10, z16, z18, z1c, z1e, z1f, z1v, z1w, z1x, z1z, z21, z2o, z2u, z2w, z2x, z2y, z34, z3b, z3e, z3x, z3y, z3z, z40, z46, z49, z4a, z4b, z4c, z4e, z4f, z4g, z4h, z4i, z4m, z4n, z4p, z4q, z4z, z50, z51, z53, z54, z5a, z5j, z5k, z5l, z5t, z5u, z5x, z62, z66, z6a, z6b, z6h, z6j, z6p, z6t, z6v, z6x, z70, z71, z72, z7c, z7d, z8d, Nat.reduceAdd, Nat.reduceSub, ↓reduceIte, keepR, Hp.cell, Hp.row, Hp.wr, tElemx110, tFieldAx149x0, tFieldAx154x0, tFieldAx154x1, tPartx3, tPartx98, tPartx110, tSizex98, g1, g2, ne_f a3, ne_f0 a3, lt_t a3, lt_t0 a3, ne_f a4, ne_f0 a4, lt_t a4, lt_t0 a4, r1, hnn, hlt, Int.toNat_natCast, hle, vbf, hl64, o1, tk, hn]
  refine ⟨_, _, rfl, rfl, ⟨pb, splice pc (n * 64) x.2, bv, qb, ?_, get_set_self, ?_, ?_, by simp only [Hp.size_setB, Hp.size_push]; omega, by simp only [Hp.size_setB, Hp.size_push]; omega, a5, fun q hq => ⟨by have := a6 q hq; simp only [Hp.size_setB, Hp.size_push]; omega, (a6 q hq).2⟩, a7, a8, fun c hc => ⟨(a9 c hc).1, by have := (a9 c hc).2; simp only [Hp.size_setB, Hp.size_push]; omega⟩, hwf⟩, ((Chg.refl (S := (· = pb)) k).push _).set (.inl rfl) _, a8⟩
  · rw [get_set_ne a5, get_push_ne (by omega), g1]; simp [downS]
  · simp only [downS, hn, Int.toNat_natCast]
    exact hset.mono (fun _ h => h) id frN
  · exact a2.mono (by simp only [Hp.size_setB, Hp.size_push]; omega) fun q hq => by rw [get_set_ne (a6 q hq).2.2.1, get_push_ne (by have := (a6 q hq).1; omega)]
theorem run_down (h0 : I 98 = none) (hN : 2 < N) (d : DiskAt S k b D) {cs : List Value} {x : T167} (r : R167.r false p k cs x) (hx : 0 ≤ x.1 ∧ x.1 < (D.1.length : Int)) :
    Ex (fun v k' => v = .tuple #[] ∧ DiskAt S k' b (downS D x) ∧ Chg S k k') (evalV Try.prog I N (.fn 98) #[.pointer (some ⟨b, 0, none⟩), .agg cs.toArray] k) := by
  have d0 := d
  obtain ⟨pb, pc, bv, qb, g1, -⟩ := d
  refine (run_downP h0 hN d0 g1 r hx).mono ?_
  rintro v k' ⟨h1, h2, h3, h4⟩
  exact ⟨h1, h2, h3.mono fun c hc => .inl (hc ▸ h4)⟩
end
end Go.Abs.B1
