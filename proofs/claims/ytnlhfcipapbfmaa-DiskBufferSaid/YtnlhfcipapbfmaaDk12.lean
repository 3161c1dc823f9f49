/- The disk: the rows of the buffer, told one after the other. -/
import Derived.Test.YtnlhfcipapbfmaaDk11
namespace Go.Abs.B1
open Go.Proofs
set_option maxRecDepth 10000
set_option maxHeartbeats 4000000
set_option linter.all false
section
variable {I : Intr} {N : Nat} {k : Hp} {S : Nat → Prop} {b : Nat} {D : DV} {p : Nat → Prop}
theorem run_rows (h1 : I 70 = none) (hN : 0 < N) : evalV Try.prog I N (.fn 70) #[.pointer (some ⟨b, 0, none⟩)] k = some (.func (.func 100) #[] #[.pointer (some ⟨k.size, 0, none⟩)], k.push (some (.cells #[.pointer (some ⟨b, 0, none⟩)] true))) := by
  obtain ⟨N, rfl⟩ : ∃ n, N = n + 1 := ⟨N - 1, by omega⟩
  rw [evalV_call (P := Try.prog) (intr := I) (f := 70) (m := 4) (rs := #[.tmp 2]) h1 Try.func70 rfl rfl rfl]
  simp (maxDischargeDepth := 16) only [z05, z08, z09, z0d, z0e, z0o, z0p, z0q, z0s, z0t, z0v, z0w, z11, z1d, z1h, z2p, z3b, z3c, z3f, z4e, z4f, z4g, z4h, z4i, z4j, z4k, z4l, z4p, z4q, z4r, z4s, z4t, z4u, z4w, z4x, z4y, z4z, z53, Nat.reduceSub]
theorem run_rows1 (h1 : I 100 = none) {v : Value} {xs : List T167} (r : (Rp.slice R167).r false p k [v] xs) (hp : ∀ c, p c → c < k.size) (hN : xs.length + 5 < N) (hlen : xs.length ≤ 1000) {C l : Nat} {w0 w1 w2 w3 w4 : Value} (hC : k.get C = some (.cells #[.pointer (some ⟨b, 0, none⟩)] true)) (hCk : C < k.size)
    (hb : k.get b = some (.cells #[w0, v, w1, w2, w3, w4] true)) (hbk : b < k.size) (Inv : Nat → Hp → Prop) (hInv : ∀ i h, Inv i h → k.size ≤ h.size ∧ h.ro ≤ h.size ∧ ∀ c, p c → h.get c = k.get c) (hmono : ∀ i h h', Inv i h → Keeps h h' → h'.ro = h.ro → Inv i h')
    (hy : ∀ i h x, Inv i h → xs[i]? = some x → ∀ cs : List Value, R167.r false nop h cs x → ∃ M, N = M + 1 ∧ ∃ h', evalV Try.prog I M (.yield l) #[.int .i64 (i : Int), .agg cs.toArray] h = some (.bool true, h') ∧ Inv (i + 1) h') (h0 : Inv 0 k) :
    Ex (fun _ k' => Inv xs.length k') (evalV Try.prog I N (.fn 100) #[.func (.yield l) #[] #[], .pointer (some ⟨C, 0, none⟩)] k) := by
  obtain ⟨N, rfl⟩ : ∃ n, N = n + 1 := ⟨N - 1, by omega⟩
  obtain ⟨a, c, rfl, -, -⟩ := slice_form r
  rw [evalV_call (P := Try.prog) (intr := I) (f := 100) (m := 21) (rs := #[]) h1 Try.func100 rfl rfl rfl]
  simp (maxDischargeDepth := 16) only [z08, z09, z0d, z0e, z0p, z0q, z0s, z0t, z0v, z0w, z0z, z10, z16, z1c, z1e, z1p, z1r, z1v, z21, z2w, z2x, z3b, z4e, z4f, z4g, z4h, z4i, z4m, z4n, z4o, z4p, z4q, z4r, z4s, z4t, z4u, z4w, z4x, z4y, z50, z51, z53, evalC_block, Nat.reduceAdd, Nat.reduceSub, Hp.cell, tFieldAx149x1, tLenx147, tPartx89, tPartx147, hC, ne_f hCk, ne_f0 hCk, lt_t hCk, lt_t0 hCk, hb, ne_f hbk, ne_f0 hbk, lt_t hbk, lt_t0 hbk]
  refine loop_rule (Ex _) (fun m x h => ∃ i : Nat, m = xs.length - i ∧ i ≤ xs.length ∧ Inv i h ∧ x.tmps.size = 21 ∧ x.defers = [] ∧ x.tmps.getD 0 undef = .func (.yield l) #[] #[] ∧ x.tmps.getD 1 undef = .pointer (some ⟨C, 0, none⟩) ∧ x.tmps.getD 8 undef = .slice a xs.length c ∧ x.tmps.getD 9 undef = .int .i64 (xs.length : Int) ∧ x.tmps.getD 10 undef = .int .i64 (i : Int)) ?_ _ xs.length _ _ ?_ ?_
  · intro m n' x h hI' ih
    obtain ⟨i, hm, hi, hin, hxs, hxd, l0, l1, l8, l9, l10⟩ := hI'
    obtain ⟨g, rfl⟩ : ∃ g : Nat → Value, x = { tmps := #[.func (.yield l) #[] #[], .pointer (some ⟨C, 0, none⟩), g 2, g 3, g 4, g 5, g 6, g 7, .slice a xs.length c, .int .i64 (xs.length : Int), .int .i64 (i : Int), g 11, g 12, g 13, g 14, g 15, g 16, g 17, g 18, g 19, g 20], defers := [] } := ⟨fun k => x.tmps.getD k undef, (act_eta hxs hxd).trans (by simp only [unrollL, Nat.reduceAdd, Nat.zero_add, l0, l1, l8, l9, l10])⟩; clear hxs hxd l0 l1 l8 l9 l10
    obtain ⟨hs, hr, hg⟩ := hInv i h hin
    by_cases hlt : i < xs.length
    · have hlt' := lt_cast hlt
      obtain ⟨q1, q2, q3⟩ := dec_meas hlt hm
      obtain ⟨y, hy'⟩ : ∃ y, xs[i]? = some y := ⟨_, List.getElem?_eq_getElem hlt⟩
      obtain ⟨bb, off, _, cells, ow', part, ee, hb0, hg', -, hp', hle, hex, -⟩ := elem_at (s := 65) r hy' rfl (by decide)
      cases ee
      obtain ⟨l', rfl, hx1, rfl, hf⟩ := R167_inv hp'
      have hgb := (hg bb hb0).trans hg'
      have hbb : bb < h.size := by have := hp bb hb0; omega
      have hnn : (0 ≤ (i : Int)) = True := by simp
      have w3 := i64_succ (i := i) (by omega)
      have hy64 : y.2.length = 64 := hf.len
      have tk : y.2.take 64 = y.2 := List.take_of_length_le (by omega)
      have o1 := flat_all1 hf
      have r0 : (h.ro ≤ h.size) = True := by simp [hr]
      obtain ⟨M, hM, hyy⟩ : ∃ M, N + 1 = M + 1 ∧ ∀ h', Keeps h h' → h'.ro = h.ro → Ex (fun u k' => u = .bool true ∧ Inv (i + 1) k') (evalV Try.prog I M (.yield l) #[.int .i64 (i : Int), .agg ([Value.int .i64 y.1] ++ y.2).toArray] h') :=
        ⟨N, rfl, fun h' hk hr' => by
          obtain ⟨M, hM, h'', e1, e2⟩ := hy i h' y (hmono i h h' hin hk hr') hy' _ (R167_mk (x := y) hx1 ⟨rfl, hf⟩)
          cases hM
          exact ⟨_, _, e1, rfl, e2⟩⟩
      cases hM
      simp (maxDischargeDepth := 16) only [z04, z08, z09, z0a, z0b, z0d, z0e, z0p, z0q, z0s, z0t, z0u, z0v, z0z, z10, z11, z13, z18, z1e, z1f, z1g, z1l, z1v, z1w, z1x, z1z, z2d, z2o, z2u, z2x, z2y, z2z, z33, z34, z3a, z3b, z3i, z3p, z3w, z3x, z3y, z3z, z41, z44, z46, z49, z4c, z4e, z4f, z4g, z4h, z4i, z4j, z4k, z4l, z4p, z4q, z4r, z4s, z4t, z4u, z4z, z50, z51, z53, z5a, z5f, z72, evalC_block, Nat.reduceAdd, Nat.reduceSub, ↓reduceIte, Hp.row, Hp.wr, tElemx147, tPartx154, tSizex154, tZerox154, hlt', hnn, hgb, ne_f hbb, ne_f0 hbb, lt_t hbb, lt_t0 hbb, hle, hex, Int.toNat_natCast, r0, hy64, o1, splice_tail, tk]
      refine ex_any (Ex _) (hyy _ (by repeat (first | assumption | exact Keeps.refl _ | refine Keeps.push ?_ _ | refine Keeps.set ?_ (by first | omega | (simp only [Hp.size_push, Hp.size_setB]; omega)) _)) (by simp only [Hp.ro_setB, Hp.ro_push])) ?_
      rintro _ k2 ⟨rfl, hk2⟩
      simp (maxDischargeDepth := 16) only [z04, z08, z0a, z0c, z0d, z0e, z0h, z0k, z0p, z0q, z0s, z0t, z0v, z0w, z0z, z10, z13, z14, z24, z2h, z3b, z4e, z4f, z4g, z4h, z4i, z5c, w3]
      exact ih (m - 1) _ _ q1 ⟨i + 1, q2, q3, hk2, rfl, rfl, rfl, rfl, rfl, rfl, rfl⟩
    · have hlt' := nlt_cast hlt
      have : i = xs.length := by omega
      subst this
      simp (maxDischargeDepth := 16) only [z06, z08, z09, z0a, z0c, z0d, z0e, z0g, z0j, z0m, z0n, z0p, z0q, z0s, z0t, z0v, z0z, z13, z2d, z3b, z3e, z4e, z4f, z4g, z4h, z4i, z5b, ↓reduceIte, hlt']
      exact ⟨_, _, rfl, hin⟩
  · omega
  · exact ⟨0, by omega, by omega, h0, rfl, rfl, rfl, rfl, rfl, rfl, rfl⟩
end
end Go.Abs.B1
