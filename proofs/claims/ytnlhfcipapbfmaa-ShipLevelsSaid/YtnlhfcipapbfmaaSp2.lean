/- slices.Grow, slices.Concat of entries. -/
import Derived.Test.YtnlhfcipapbfmaaSp1
import Derived.Test.YtnlhfcipapbfmaaSq0
import Derived.Test.YtnlhfcipapbfmaaAbsE
namespace Go.Abs.B1
open Go.Proofs
set_option maxRecDepth 10000
set_option maxHeartbeats 4000000
set_option linter.all false
theorem wn (n : Nat) (h : n < 100000) : IntKind.i64.wrap (n : Int) = (n : Int) := by
  rw [wrapI64]; split <;> omega
theorem wz : IntKind.i64.wrap 0 = 0 := by decide
theorem tElem34 : tElem Try.prog 34 = some 4 := by kernel_rfl
/-- Room for so many entries. -/
theorem run95 {I : Intr} (hI : I 95 = none) {N n : Nat} {k : Hp} (hN : 0 < N) (hn : n < 2000) : evalV Try.prog I N (.fn 95) #[.slice none 0 0, .int .i64 (n : Int)] k =
    if n = 0 then some (.slice none 0 0, k) else some (.slice (some ⟨k.size, 0, none⟩) 0 (capOpen + 4), k.push (some (.cells (Builtin.zeroCells #[.int .u64 0, .int .i64 0, .int .u32 0, .slice none 0 0] n) true))) := by
  obtain ⟨N, rfl⟩ : ∃ m, N = m + 1 := ⟨N - 1, by omega⟩
  have cn := capV_nil tLenx34
  have lt0 : ((n : Int) < 0) = False := eq_false (by omega)
  rw [evalV_call (P := Try.prog) (intr := I) (f := 95) (m := 27) (rs := #[.tmp 4]) hI Try.func95 rfl rfl rfl]
  by_cases h0 : n = 0
  · subst h0
    have gt0 : ((0 : Int) < 0) = False := by simp
    simp (maxDischargeDepth := 16) only [z04, z05, z08, z09, z0a, z0c, z0d, z0e, z0o, z0p, z0q, z0s, z0t, z0v, z0w, z0z, z10, z11, z13, z1p, z1r, z25, z2d, z2f, z3b, z3c, z3f, z4e, z4f, z4g, z4h, z4i, z4p, z4q, z4r, z4s, z4t, z4u, z4w, z4x, z4y, z4z, z53, z5b, z7o, Nat.reduceAdd, Nat.reduceSub, ↓reduceIte, tLenx34, op_cap, cn, gt0, wz, Int.sub_zero]
  · have gt0 : (0 < (n : Int)) = True := by simp; omega
    have ap := fun k : Hp => append_zeros_nil (tx := 3) (j := .i64) (n := n) (k := k) tRowx34 (by kernel_rfl) (by decide) (by omega) (by omega) (by omega)
    have sl := fun (b : Nat) (h : Hp) => aSlice_zero (n := n) (b := b) (h := h) tRowx34 (by decide)
    have sn := fun h : Hp => aSlice_nil0 (h := h) tElem34
    rw [if_neg h0]
    simp (maxDischargeDepth := 16) only [z04, z05, z08, z09, z0a, z0b, z0c, z0d, z0e, z0o, z0p, z0q, z0s, z0t, z0v, z0w, z0z, z10, z11, z13, z1k, z1m, z1p, z1r, z25, z2d, z2f, z3b, z3c, z3f, z4e, z4f, z4g, z4h, z4i, z4j, z4k, z4l, z4p, z4q, z4r, z4s, z4t, z4u, z4w, z4x, z4y, z4z, z53, z5a, z5b, z7o, z87, Nat.reduceAdd, Nat.reduceSub, tLenx34, op_cap, cn, lt0, gt0, wn n (by omega), wz, Int.sub_zero, ap, sl, sn]
theorem rot34 : rowOrText (Try.prog.underlying 34) = true := by kernel_rfl
def catN (xs ys : List T85) (i : Nat) : List T85 := if i = 0 then [] else if i = 1 then xs else xs ++ ys
/-- Two rows of entries, one behind the other. -/
theorem run67 {I : Intr} (hI : I 67 = none) (hI95 : I 95 = none) {N : Nat} {k : Hp} {p : Nat → Prop} {v w : Value} {xs ys : List T85} {c cap : Nat} {ow : Bool} (hro : k.ro ≤ k.size) (hp : ∀ b, p b → b < k.size) (rv : (Rp.slice R85).r false p k [v] xs) (rw' : (Rp.slice R85).r false p k [w] ys)
    (hg : k.get c = some (.cells #[v, w] ow)) (hc : c < k.size) (h0 : 0 < xs.length + ys.length) (hn : xs.length + ys.length < 2000) (hN : 10 < N) :
    Al k (fun k' u => (Rp.slice R85).r false (fun b => p b ∨ b = k.size) k' [u] (xs ++ ys) ∧ k.size < k'.size) (evalV Try.prog I N (.fn 67) #[.slice (some ⟨c, 0, none⟩) 2 cap] k) := by
  obtain ⟨N, rfl⟩ : ∃ m, N = m + 1 := ⟨N - 1, by omega⟩
  have ov := (Rp.slice R85).rone rv v (List.mem_singleton.2 rfl)
  have ow1 := (Rp.slice R85).rone rw' w (List.mem_singleton.2 rfl)
  have rv0 := rv
  have rw0 := rw'
  obtain ⟨av, cv, rfl, -, -⟩ := slice_form rv
  obtain ⟨aw, cw, rfl, -, -⟩ := slice_form rw'
  rw [evalV_call (P := Try.prog) (intr := I) (f := 67) (m := 36) (rs := #[.tmp 2]) hI Try.func67 rfl rfl rfl]
  simp (maxDischargeDepth := 16) only [z08, z09, z0d, z0e, z0p, z0q, z0s, z0t, z0v, z0w, z0z, z10, z11, z1p, z1r, z3b, z4e, z4f, z4g, z4h, z4i, z4p, z4q, z4r, z4s, z4t, z4u, z4w, z4x, z4y, z53, z7q, evalC_block, Nat.reduceSub, tLenx178]
  refine loop_rule (Al k _) (fun m x h => ∃ (i : Nat), m = 2 - i ∧ i ≤ 2 ∧ h = k ∧ x.tmps.size = 36 ∧ x.defers = [] ∧ x.tmps.getD 0 undef = .slice (some ⟨c, 0, none⟩) 2 cap ∧ x.tmps.getD 3 undef = .int .i64 (((catN xs ys i).length : Nat) : Int) ∧ x.tmps.getD 9 undef = .slice (some ⟨c, 0, none⟩) 2 cap ∧ x.tmps.getD 10 undef = .int .i64 2 ∧ x.tmps.getD 11 undef = .int .i64 (i : Int)) ?_ _ 2 _ _ ?_ ?_
  · intro m n' x h hI' ih
    obtain ⟨i, hm, hi, rfl, hxs, hxd, l0, l3, l9, l10, l11⟩ := hI'
    obtain ⟨g, rfl⟩ : ∃ g : Nat → Value, x = { tmps := #[.slice (some ⟨c, 0, none⟩) 2 cap, g 1, g 2, .int .i64 (((catN xs ys i).length : Nat) : Int), g 4, g 5, g 6, g 7, g 8, .slice (some ⟨c, 0, none⟩) 2 cap, .int .i64 2, .int .i64 (i : Int), g 12, g 13, g 14, g 15, g 16, g 17, g 18, g 19, g 20, g 21, g 22, g 23, g 24, g 25, g 26, g 27, g 28, g 29, g 30, g 31, g 32, g 33, g 34, g 35], defers := [] } := ⟨fun k => x.tmps.getD k undef, (act_eta hxs hxd).trans (by simp only [unrollL, Nat.reduceAdd, Nat.zero_add, l0, l3, l9, l10, l11])⟩; clear hxs hxd l0 l3 l9 l10 l11
    by_cases hlt : i < 2
    · have hlt' : ((i : Int) < 2) = True := eq_true (by omega)
      have w3 := i64_succ (i := i) (by omega)
      have hii : (0 ≤ (i : Int)) = True := eq_true (by omega)
      have hlt2 : ((i : Int) < ((2 : Nat) : Int)) = True := eq_true (by omega)
      rcases (show i = 0 ∨ i = 1 by omega) with rfl | rfl
      · have e1 : IntKind.i64.wrap (((catN xs ys 0).length : Int) + (xs.length : Int)) = (((catN xs ys 1).length : Nat) : Int) := by
          rw [show ((catN xs ys 0).length : Int) + (xs.length : Int) = (xs.length : Int) by simp [catN]]
          exact wn _ (by omega)
        have e2 : ((((catN xs ys 1).length : Nat) : Int) < 0) = False := eq_false (by omega)
        have e3 : IntKind.i64.wrap (0 + 1) = ((1 : Nat) : Int) := by decide
        simp (maxDischargeDepth := 16) only [z04, z08, z09, z0a, z0b, z0c, z0d, z0e, z0h, z0k, z0p, z0q, z0s, z0t, z0v, z0w, z0z, z10, z11, z13, z18, z1e, z1p, z1r, z1v, z1z, z24, z2d, z2u, z2x, z3b, z4e, z4f, z4g, z4h, z4i, z4m, z4n, z50, z51, z54, z5a, z5b, z7o, z7p, z7q, evalC_block, Nat.reduceMul, Nat.reduceLT, Int.reduceLT, Int.reduceLE, Int.reduceToNat, Hp.cell, tElemx178, tLenx34, tPartx34, hg, ne_f hc, ne_f0 hc, lt_t hc, lt_t0 hc, e1, e2, e3]
        exact ih 1 _ _ (by omega) ⟨1, by omega, by omega, rfl, rfl, rfl, rfl, rfl, rfl, rfl, rfl⟩
      · have e1 : IntKind.i64.wrap (((catN xs ys 1).length : Int) + (ys.length : Int)) = (((catN xs ys 2).length : Nat) : Int) := by
          rw [show ((catN xs ys 1).length : Int) + (ys.length : Int) = (((xs.length + ys.length : Nat)) : Int) by simp [catN]]
          rw [wn _ (by omega)]; simp [catN]
        have e2 : ((((catN xs ys 2).length : Nat) : Int) < 0) = False := eq_false (by omega)
        have e3 : IntKind.i64.wrap (1 + 1) = ((2 : Nat) : Int) := by decide
        simp (maxDischargeDepth := 16) only [z04, z08, z09, z0a, z0b, z0c, z0d, z0e, z0h, z0k, z0p, z0q, z0s, z0t, z0v, z0w, z0z, z10, z11, z13, z18, z1e, z1p, z1r, z1v, z1z, z24, z2d, z2u, z2x, z3b, z4e, z4f, z4g, z4h, z4i, z4m, z4n, z4o, z50, z51, z53, z5a, z5b, z7p, z7q, evalC_block, Nat.reduceMul, Nat.reduceLT, Int.reduceLT, Int.reduceLE, Int.reduceToNat, Hp.cell, tElemx178, tLenx34, tPartx34, hg, ne_f hc, ne_f0 hc, lt_t hc, lt_t0 hc, e1, e2, e3]
        exact ih 0 _ _ (by omega) ⟨2, by omega, by omega, rfl, rfl, rfl, rfl, rfl, rfl, rfl, rfl⟩
    · obtain rfl : i = 2 := by omega
      have hlt' : (((2 : Nat) : Int) < 2) = False := eq_false (by omega)
      have hlt'' : ((2 : Int) < 2) = False := eq_false (by omega)
      have hl2 : (catN xs ys 2).length = xs.length + ys.length := by simp [catN]
      have e95 := run95 hI95 (N := N) (k := h) (n := (catN xs ys 2).length) (by omega) (by omega)
      rw [if_neg (by omega), hl2] at e95
      rw [show ((xs.length + ys.length : Nat) : Int) = (((catN xs ys 2).length : Nat) : Int) by rw [hl2]] at e95
      simp (maxDischargeDepth := 16) only [z06, z08, z09, z0a, z0c, z0d, z0e, z0g, z0j, z0m, z0p, z0q, z0s, z0t, z0v, z0w, z0x, z0z, z10, z11, z13, z1l, z1p, z1r, z2d, z3b, z3h, z4e, z4f, z4g, z4h, z4i, z4j, z4k, z4l, z4s, z4u, z4v, z5b, z7q, evalC_block, ↓reduceIte, hasBx95, tLenx178, hlt'', e95]
      have gw0 := Gw.start (e := R85) (k := h) (n := xs.length + ys.length) (z := #[.int .u64 0, .int .i64 0, .int .u32 0, .slice none 0 0]) (p := p) rfl (by simp [flatB]) (by unfold capOpen; omega) hro (fun h' => by have := hp _ h'; omega)
      have hkp : ∀ b, p b → b ≠ h.size := fun b hb => by have := hp b hb; omega
      refine loop_rule (Al h _) (fun m x h' => ∃ (i : Nat) (q : Nat → Prop), m = 2 - i ∧ i ≤ 2 ∧ Gw R85 q h' (.slice (some ⟨h.size, 0, none⟩) (catN xs ys i).length (capOpen + 4)) h.size (xs.length + ys.length) (catN xs ys i) ∧ (∀ b, q b → p b) ∧ Keeps h h' ∧ h'.ro = h.ro ∧
        x.tmps.size = 36 ∧ x.defers = [] ∧ x.tmps.getD 6 undef = .slice (some ⟨h.size, 0, none⟩) (catN xs ys i).length (capOpen + 4) ∧ x.tmps.getD 25 undef = .slice (some ⟨c, 0, none⟩) 2 cap ∧ x.tmps.getD 26 undef = .int .i64 2 ∧ x.tmps.getD 27 undef = .int .i64 (i : Int)) ?_ _ 2 _ _ ?_ ?_
      · intro m n' x h' hI' ih
        obtain ⟨i, q, hm, hi, gw, hq, hk, hr, hxs, hxd, l6, l25, l26, l27⟩ := hI'
        obtain ⟨g, rfl⟩ : ∃ g : Nat → Value, x = { tmps := #[g 0, g 1, g 2, g 3, g 4, g 5, .slice (some ⟨h.size, 0, none⟩) (catN xs ys i).length (capOpen + 4), g 7, g 8, g 9, g 10, g 11, g 12, g 13, g 14, g 15, g 16, g 17, g 18, g 19, g 20, g 21, g 22, g 23, g 24, .slice (some ⟨c, 0, none⟩) 2 cap, .int .i64 2, .int .i64 (i : Int), g 28, g 29, g 30, g 31, g 32, g 33, g 34, g 35], defers := [] } := ⟨fun k => x.tmps.getD k undef, (act_eta hxs hxd).trans (by simp only [unrollL, Nat.reduceAdd, Nat.zero_add, l6, l25, l26, l27])⟩; clear hxs hxd l6 l25 l26 l27
        have hgc := (hk.get c hc).trans hg
        have hc' : c < h'.size := by have := hk.size; omega
        by_cases hlt : i < 2
        · have hlt' : ((i : Int) < 2) = True := eq_true (by omega)
          have hii : (0 ≤ (i : Int)) = True := eq_true (by omega)
          have hlt2 : ((i : Int) < ((2 : Nat) : Int)) = True := eq_true (by omega)
          rcases (show i = 0 ∨ i = 1 by omega) with rfl | rfl
          · obtain ⟨k', ap, gw', z1, z2, z3⟩ := gw.append (P := Try.prog) (t := 34) (tx := 34) (q := p) tRowx34 rot34 rfl (by decide) ((Rp.slice R85).mono rv0 (fun _ h => h) id (hk.fr hp)) (by simp [catN]) (fun h' => hkp _ h' rfl) (by omega)
            have e3 : IntKind.i64.wrap (0 + 1) = ((1 : Nat) : Int) := by decide
            have ap' : aAppend Try.prog #[34, 34] #[.slice (some ⟨h.size, 0, none⟩) (catN xs ys 0).length (capOpen + 4), .slice av xs.length cv] h' = some (.slice (some ⟨h.size, 0, none⟩) (catN xs ys 1).length (capOpen + 4), k') := by
              rw [ap]; simp [catN]; rfl
            simp (maxDischargeDepth := 16) only [z04, z08, z09, z0a, z0b, z0d, z0e, z0h, z0k, z0p, z0q, z0s, z0t, z0v, z0w, z0z, z10, z11, z13, z18, z1e, z1m, z1v, z1z, z24, z2d, z2u, z2x, z3b, z4e, z4f, z4g, z4h, z4i, z4j, z4k, z4l, z4m, z4n, z50, z51, z54, z5a, z7o, z7p, z7q, evalC_block, Nat.reduceMul, Nat.reduceLT, Int.reduceLT, Int.reduceLE, Int.reduceToNat, Hp.cell, tElemx178, tPartx34, hgc, ne_f hc', ne_f0 hc', lt_t hc', lt_t0 hc', ap', e3]
            exact ih 1 _ _ (by omega) ⟨1, fun c => q c ∨ p c, by omega, by omega, by simpa [catN, show R85.len = 4 from rfl] using gw', fun b (hb : q b ∨ p b) => hb.elim (hq b) id, ⟨by have := hk.size; omega, fun d hd => by rw [z3 d (by omega), hk.get d hd]⟩, by omega, rfl, rfl, rfl, rfl, rfl, rfl⟩
          · obtain ⟨k', ap, gw', z1, z2, z3⟩ := gw.append (P := Try.prog) (t := 34) (tx := 34) (q := p) tRowx34 rot34 rfl (by decide) ((Rp.slice R85).mono rw0 (fun _ h => h) id (hk.fr hp)) (by simp [catN]) (fun h' => hkp _ h' rfl) (by omega)
            have e3 : IntKind.i64.wrap (1 + 1) = ((2 : Nat) : Int) := by decide
            have ap' : aAppend Try.prog #[34, 34] #[.slice (some ⟨h.size, 0, none⟩) (catN xs ys 1).length (capOpen + 4), .slice aw ys.length cw] h' = some (.slice (some ⟨h.size, 0, none⟩) (catN xs ys 2).length (capOpen + 4), k') := by
              rw [ap]; simp [catN]; rfl
            simp (maxDischargeDepth := 16) only [z04, z08, z09, z0a, z0b, z0d, z0e, z0h, z0k, z0p, z0q, z0s, z0t, z0v, z0w, z0z, z10, z11, z13, z18, z1e, z1m, z1v, z1z, z24, z2d, z2u, z2x, z3b, z4e, z4f, z4g, z4h, z4i, z4j, z4k, z4l, z4m, z4n, z4o, z50, z51, z53, z5a, z7p, z7q, evalC_block, Nat.reduceMul, Nat.reduceLT, Int.reduceLT, Int.reduceLE, Int.reduceToNat, Hp.cell, tElemx178, tPartx34, hgc, ne_f hc', ne_f0 hc', lt_t hc', lt_t0 hc', ap', e3]
            exact ih 0 _ _ (by omega) ⟨2, fun c => q c ∨ p c, by omega, by omega, by simpa [catN, show R85.len = 4 from rfl] using gw', fun b (hb : q b ∨ p b) => hb.elim (hq b) id, ⟨by have := hk.size; omega, fun d hd => by rw [z3 d (by omega), hk.get d hd]⟩, by omega, rfl, rfl, rfl, rfl, rfl, rfl⟩
        · obtain rfl : i = 2 := by omega
          have hlt' : (((2 : Nat) : Int) < 2) = False := eq_false (by omega)
          have hlt'' : ((2 : Int) < 2) = False := eq_false (by omega)
          simp (maxDischargeDepth := 16) only [z05, z06, z08, z09, z0a, z0c, z0d, z0e, z0g, z0j, z0m, z0o, z0p, z0q, z0s, z0t, z0v, z0z, z10, z11, z13, z2d, z3b, z3c, z3f, z4e, z4f, z4g, z4h, z4i, z4z, z5b, z7q, ↓reduceIte, hlt'']
          exact Al.done hk hr ⟨(Rp.slice R85).mono gw.rp (fun b hb => hb.imp (hq b) id) id (Fr.refl _), gw.2.2.2.1⟩
      · omega
      · exact ⟨0, p, by omega, by omega, gw0, fun _ h => h, (by repeat (first | assumption | exact Keeps.refl _ | refine Keeps.push ?_ _ | refine Keeps.set ?_ (by first | omega | (simp only [Hp.size_push, Hp.size_setB]; omega)) _)), by simp only [Hp.ro_push], rfl, rfl, rfl, rfl, rfl, rfl⟩
  · omega
  · exact ⟨0, by omega, by omega, rfl, rfl, rfl, rfl, rfl, rfl, rfl, rfl⟩
end Go.Abs.B1
