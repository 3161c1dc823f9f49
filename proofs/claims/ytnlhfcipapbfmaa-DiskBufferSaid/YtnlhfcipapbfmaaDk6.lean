/- The disk: reads. -/
import Derived.Test.YtnlhfcipapbfmaaDk5
namespace Go.Abs.B1
open Go.Proofs
set_option maxRecDepth 10000
set_option maxHeartbeats 4000000
set_option linter.all false
/-- What a sector shows. -/
def showS (D : DV) (i : Int) : List Value := if 0 ≤ idxF i D.2.1 0 then ((D.2.1[(idxF i D.2.1 0).toNat]?).map (·.2)).getD [] else (D.1[i.toNat]?).getD []
def zeroB : List Value := List.replicate 64 (.int .u8 0)
section
variable {I : Intr} {N : Nat} {k : Hp} {S : Nat → Prop} {b : Nat} {D : DV} {p : Nat → Prop}
theorem run_Read1 (h0 : I 86 = none) (h1 : I 87 = none) (h2 : I 110 = none) (h3 : I 111 = none) (hN : 40 < N) (d : DiskAt S k b D) {n : Nat} (hn : n < D.1.length) {cd ci cb : Nat} (gd : k.get cd = some (.cells #[.pointer (some ⟨b, 0, none⟩)] true)) (gi : k.get ci = some (.cells #[.int .i64 (n : Int)] true))
    {old : Array Value} (gb : k.get cb = some (.cells old true)) (ho : old.size = 64) (hcd : cd < k.size) (hci : ci < k.size) (hcb : cb < k.size) (hro : k.ro ≤ cb) (hS : ¬ S cb) (hne : cd ≠ cb ∧ ci ≠ cb) :
    Ex (fun _ k' => k'.get cb = some (.cells (showS D n).toArray true) ∧ Chg (· = cb) k k' ∧ flatOk K98 (showS D n)) (evalV Try.prog I N (.fn 86) #[.pointer (some ⟨cd, 0, none⟩), .pointer (some ⟨ci, 0, none⟩), .pointer (some ⟨cb, 0, none⟩)] k) := by
  obtain ⟨N, rfl⟩ : ∃ n, N = n + 1 := ⟨N - 1, by omega⟩
  have d0 := d
  obtain ⟨pb, pc, bv, qb, g1, g2, a1, a2, a3, a4, a5, a6, a7, a8, a9, a10⟩ := d
  have hb := DiskAt.buf (pb := pb) a2
  obtain ⟨y, hy⟩ : ∃ y, D.1[n]? = some y := ⟨_, List.getElem?_eq_getElem hn⟩
  obtain ⟨part, p1, ⟨rfl, p2⟩, p3, p4, -⟩ := a1.elem (s := 64) hy rfl
  have hr1 : (k.ro ≤ cb) = True := by simp [hro]
  have e1 : (cd = cb) = False := by simp [hne.1]
  have e2 : (ci = cb) = False := by simp [hne.2]
  have e3 : (b = cb) = False := by simp; intro e; exact hS (e ▸ a7)
  have hnn : (0 ≤ (n : Int)) = True := by simp
  have hlt : ((n : Int) < (D.1.length : Int)) = True := by simp; omega
  have vbf := fun p => vb_flat (p := p) p2
  have vaf := fun p => all_flat (p := p) p2
  have o1 := flat_all1 p2
  have sp := splice_full (cs := old) (vs := part) (by omega)
  have so : 64 ≤ old.size := by omega
  rw [evalV_call (P := Try.prog) (intr := I) (f := 86) (m := 24) (rs := #[]) h0 Try.func86 rfl rfl rfl]
  simp (maxDischargeDepth := 16) only [z09, z4p, z4q, z4r, z4s, z4t, z4u, z4w, z4x, z4y, z53, z7t, Nat.reduceAdd, Nat.reduceSub]
  rw [evalDraw_modes _ _ [(2, 0, 1), (0, 1, 3), (0, 3, 7), (2, 7, 15), (2, 0, 16), (0, 31, 63), (1, 63, 127), (4, 127, 255)] (by kernel_rfl)]
  simp (maxDischargeDepth := 16) only [z08, z09, z0d, z0e, z0q, z0s, z0t, z0u, z0v, z0x, z0z, z16, z18, z1c, z1e, z1f, z1l, z1v, z1w, z1x, z1z, z21, z2o, z2u, z2w, z2x, z2y, z35, z3b, z3h, z46, z49, z4b, z4e, z4f, z4g, z4h, z4i, z4j, z4k, z4l, z4m, z4n, z4p, z4s, z4u, z4v, z4z, z50, z51, z53, z54, z5a, z5j, z5k, z5l, z5n, z5t, z5u, z5w, z5x, z62, z66, z6a, z6b, z6h, z6j, z6o, z6p, z6t, z6v, z6x, z70, z71, z72, z8d, Nat.reduceAdd, ↓reduceIte, keepR, Hp.cell, Hp.row, Hp.wr, hasBx87, tElemx110, tFieldAx149x0, tPartx3, tPartx89, tPartx98, tPartx110, tSizex98, gd, gi, gb, g1, g2, ne_f hcd, ne_f0 hcd, lt_t hcd, lt_t0 hcd, ne_f hci, ne_f0 hci, lt_t hci, lt_t0 hci, ne_f hcb, ne_f0 hcb, lt_t hcb, lt_t0 hcb, ne_f a3, ne_f0 a3, lt_t a3, lt_t0 a3, ne_f a4, ne_f0 a4, lt_t a4, lt_t0 a4, hr1, e1, e2, hnn, hlt, Int.toNat_natCast, p3, p4, vbf, nle_f hcb, nle_fj hcb, p1, o1, sp, so]
  have d1 : DiskAt S (k.setB cb (some (.cells part.toArray true))) b D := d0.mono (by simp) rfl fun c hc => get_set_ne (fun e => hS (e ▸ hc))
  refine ex_any (Ex _) (run_held h1 h2 h3 (N := N) (by omega) d1 (by have := (a9 b a7).1; simp only [Hp.size_setB, Hp.ro_setB]; omega) (s := (n : Int))).ex ?_
  rintro _ k2 ⟨hk2, hr2, rfl⟩
  have d2 := d1.keep hk2 hr2
  have gd2 : k2.get cd = _ := ((hk2.get cd (by simpa using hcd)).trans (get_set_ne hne.1)).trans gd
  have gb2 : k2.get cb = _ := (hk2.get cb (by simpa using hcb)).trans get_set_self
  have hs2 : k.size ≤ k2.size := by simpa using hk2.size
  have ch2 : Chg (· = cb) k k2 := ((Chg.refl (S := (· = cb)) k).set (.inl rfl) _).trans (Chg.of hk2 hr2)
  have hcd2 : cd < k2.size := by omega
  have hcb2 : cb < k2.size := by omega
  obtain ⟨pb', pc', bv', qb', f1, f2, b1, b2, b3, b4, b5, b6, b7, b8, b9, b10⟩ := d2
  have hr3 : (k2.ro ≤ cb) = True := by rw [hr2]; exact hr1
  rcases idxF_range (n : Int) D.2.1 0 with ⟨q, -⟩ | ⟨j, x, q1, q2, q3, -⟩
  · have hsh : showS D n = part := by unfold showS; rw [q, if_neg (by omega), Int.toNat_natCast, hy]; rfl
    rw [hsh, q]
    simp (maxDischargeDepth := 16) only [z04, z08, z09, z0a, z0c, z0d, z0e, z0n, z0p, z0q, z0s, z0t, z0v, z0w, z0z, z10, z11, z13, z2g, z3b, z3e, z4e, z4f, z4g, z4h, z4i, z5b, Int.reduceLE]
    exact ⟨_, _, rfl, gb2, ch2, p2⟩
  · have hj := (List.getElem?_eq_some_iff.1 q1).1
    rw [Nat.zero_add] at q3
    have hsh : showS D n = x.2 := by unfold showS; rw [q3, if_pos (by omega), Int.toNat_natCast, q1]; rfl
    rw [hsh, q3]
    have hb := DiskAt.buf (pb := pb') b2
    obtain ⟨bb, off, _, cells, ow, part', ee, hb0, hg', -, hp', hle, hex, hcell⟩ := elem_at (s := 65) hb q1 rfl (by decide)
    cases ee
    obtain ⟨l, rfl, -, rfl, t2⟩ := R167_inv hp'
    have hbb := (b6 bb hb0).1
    have t1 : x.2.length = 64 := t2.len
    have hj0 : (0 ≤ (j : Int)) = True := by simp
    have hjl : ((j : Int) < (D.2.1.length : Int)) = True := by simp; omega
    have hex' : cells.extract (off + (j * 65 + 1)) (off + (j * 65 + 65)) = x.2.toArray := by
      apply Array.ext_getElem?
      intro m
      rw [Array.getElem?_extract]
      by_cases hm : m < 64
      · rw [if_pos (by omega)]
        have := hcell (m + 1) (by omega)
        rw [show off + (j * 65 + 1) + m = off + (j * 65 + (m + 1)) by omega, this]
        simp
      · rw [if_neg (by omega), Array.getElem?_eq_none (by simp; omega)]
    have so2 : 64 ≤ part.length := by omega
    have sp2 := splice_full (cs := part.toArray) (vs := x.2) (by simp; omega)
    simp (maxDischargeDepth := 16) only [z08, z09, z0a, z0b, z0d, z0e, z0n, z0p, z0q, z0s, z0t, z0u, z0v, z0w, z0z, z10, z11, z13, z16, z18, z1c, z1e, z1f, z1v, z1w, z1x, z1z, z21, z2g, z2o, z2u, z2w, z2x, z2y, z3a, z3b, z3e, z49, z4e, z4f, z4g, z4h, z4i, z4m, z4n, z4o, z4p, z4z, z50, z51, z53, z5a, z72, Nat.reduceAdd, ↓reduceIte, Hp.cell, Hp.row, Hp.wr, tElemx147, tFieldAx149x1, tFieldAx154x1, tPartx89, tPartx98, tPartx147, tSizex98, gd2, ne_f hcd2, ne_f0 hcd2, lt_t hcd2, lt_t0 hcd2, f1, ne_f b3, ne_f0 b3, lt_t b3, lt_t0 b3, hg', ne_f hbb, ne_f0 hbb, lt_t hbb, lt_t0 hbb, hj0, hjl, Int.toNat_natCast, hle, hex', gb2, ne_f hcb2, ne_f0 hcb2, lt_t hcb2, lt_t0 hcb2, hr3, t1, flat_all1 t2, so2, sp2]
    exact ⟨_, _, rfl, get_set_self, ch2.set (.inl rfl) _, t2⟩
end
end Go.Abs.B1
