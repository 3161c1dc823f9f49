/- Ships: equality of rows. -/
import Derived.Test.YtnlhfcipapbfmaaSh3
namespace Go.Abs.B1
open Go.Proofs
set_option maxRecDepth 10000
set_option linter.all false
theorem eq139 {x y : List Value} (hx : flatOk K139 x) (hy : flatOk K139 y) : aBin Try.prog .neq 139 (.agg x.toArray) (.agg y.toArray) = some (.bool (!decide (x = y))) :=
  (eq_flat (by kernel_rfl) (by kernel_rfl) (by kernel_rfl) hx hy).2
theorem eq61 {x y : List Value} (hx : flatOk K61 x) (hy : flatOk K61 y) : aBin Try.prog .neq 61 (.agg x.toArray) (.agg y.toArray) = some (.bool (!decide (x = y))) :=
  (eq_flat (by kernel_rfl) (by kernel_rfl) (by kernel_rfl) hx hy).2
theorem take_more {α : Type} {xs ys : List α} {i : Nat} {x : α} (h : xs.take i = ys.take i) (hx : xs[i]? = some x) (hy : ys[i]? = some x) : xs.take (i + 1) = ys.take (i + 1) := by
  rw [List.take_add_one, List.take_add_one, h, hx, hy]
theorem take_all {α : Type} {xs ys : List α} (hl : xs.length = ys.length) (h : xs.take xs.length = ys.take xs.length) : xs = ys := by
  rw [List.take_length, hl, List.take_length] at h; exact h
abbrev A43 := Ar.one R43 (Ar.one R43 Ar.nil)
noncomputable def g96 := gRd A43 fun x => .bool (decide (x.1 = x.2.1))
theorem con96 : Con Try.prog (CKb Try.prog) 96 g96 := by
  refine Con.rd base ok0 _ (fun a => by simp [flatB]) ?_
  rintro h _ ⟨xs, ys, ⟨⟩⟩ hro ⟨v, _, rfl, r, w, _, rfl, s, rfl⟩
  dsimp only at r s ⊢
  obtain ⟨a, c, rfl, -, hl⟩ := slice_form r
  obtain ⟨a', c', rfl, -, hl'⟩ := slice_form s
  unfold capOpen at hl hl'
  refine ⟨xs.length + 9 + 1, ?_⟩
  show ∃ h', evalV Try.prog I0 (xs.length + 9 + 1) (.fn 96) _ h = _ ∧ _
  rw [evalV_call (P := Try.prog) (intr := I0) (f := 96) (m := 26) (rs := #[.tmp 4]) rfl Try.func96 rfl rfl rfl]
  by_cases q : (xs.length : Int) = (ys.length : Int)
  · have q' := eq_true q
    have hlen : xs.length = ys.length := by omega
    simp (maxDischargeDepth := 16) only [z04, z08, z09, z0a, z0c, z0d, z0e, z0p, z0q, z0s, z0t, z0v, z0w, z0z, z10, z11, z13, z1p, z1r, z2c, z3b, z4e, z4f, z4g, z4h, z4i, z4p, z4q, z4r, z4s, z4t, z4u, z4w, z4x, z4y, z53, z5a, z5c, evalC_block, Nat.reduceAdd, Nat.reduceSub, tLenx43, q']
    refine loop_rule (fun r : Option (Value × Hp) => ∃ k', r = some (.bool (decide (xs = ys)), k') ∧ ∀ b, b < h.size → k'.get b = h.get b)
      (fun m x k => ∃ i : Nat, m = xs.length - i ∧ i ≤ xs.length ∧ xs.take i = ys.take i ∧ k = h ∧ x.tmps.size = 26 ∧ x.defers = [] ∧ x.tmps.getD 0 undef = .slice a xs.length c ∧ x.tmps.getD 1 undef = .slice a' ys.length c' ∧ x.tmps.getD 12 undef = .int .i64 (xs.length : Int) ∧ x.tmps.getD 13 undef = .int .i64 (i : Int)) ?_ _ xs.length _ _ ?_ ?_
    · intro m n' x k hI ih
      obtain ⟨i, hm, hi, ht, rfl, hxs, hxd, l0, l1, l12, l13⟩ := hI
      obtain ⟨g, rfl⟩ : ∃ g : Nat → Value, x = { tmps := #[.slice a xs.length c, .slice a' ys.length c', g 2, g 3, g 4, g 5, g 6, g 7, g 8, g 9, g 10, g 11, .int .i64 (xs.length : Int), .int .i64 (i : Int), g 14, g 15, g 16, g 17, g 18, g 19, g 20, g 21, g 22, g 23, g 24, g 25], defers := [] } := ⟨fun k => x.tmps.getD k undef, (act_eta hxs hxd).trans (by simp only [unrollL, Nat.reduceAdd, Nat.zero_add, l0, l1, l12, l13])⟩; clear hxs hxd l0 l1 l12 l13
      by_cases hlt : i < xs.length
      · have hlt' : (i : Int) < (xs.length : Int) := by omega
        have hlt2 : (i : Int) < (ys.length : Int) := by omega
        obtain ⟨q1, q2, q3⟩ : m - 1 < m ∧ m - 1 = xs.length - (i + 1) ∧ i + 1 ≤ xs.length := by clear ih; omega
        obtain ⟨x, hx⟩ : ∃ y, xs[i]? = some y := ⟨_, List.getElem?_eq_getElem hlt⟩
        obtain ⟨y, hy⟩ : ∃ y, ys[i]? = some y := ⟨_, List.getElem?_eq_getElem (by omega)⟩
        obtain ⟨b, off, _, cells, ow, part, e, hb, hg, -, ⟨rfl, hf⟩, hle, hex, -⟩ := elem_at (s := 22) r hx rfl (by decide)
        cases e
        obtain ⟨b', off', _, cells', ow', part', e, hb', hg', -, ⟨rfl, hf'⟩, hle', hex', -⟩ := elem_at (s := 22) s hy rfl (by decide)
        cases e
        have hnn : (0 ≤ (i : Int)) = True := by simp
        have w3 : IntKind.i64.wrap ((i : Int) + 1) = ((i + 1 : Nat) : Int) := by rw [i64_in] <;> omega
        have e1 := eq139 hf hf'
        simp (maxDischargeDepth := 16) only [z04, z08, z09, z0a, z0b, z0d, z0e, z0p, z0q, z0s, z0t, z0v, z0z, z10, z11, z13, z2d, z3b, z4e, z4f, z4g, z4h, z4i, z5a, z7t, evalC_block, hlt']
        rw [evalDraw_modes _ _ [(0, 0, 1), (0, 0, 2), (0, 3, 7), (2, 7, 15), (0, 0, 16), (0, 0, 32), (0, 48, 112), (2, 112, 240), (0, 255, 511)] (by kernel_rfl)]
        by_cases hxy : part = part'
        · subst hxy
          simp (maxDischargeDepth := 16) only [z04, z08, z0a, z0c, z0d, z0e, z0h, z0k, z0p, z0q, z0s, z0t, z0v, z0w, z0z, z10, z13, z18, z1e, z1v, z1z, z24, z2u, z2x, z3a, z3b, z46, z4e, z4f, z4g, z4h, z4i, z4z, z50, z51, z53, z5a, z5c, z5j, z5l, z5t, z5u, z5x, z62, z63, z6a, z6b, z6h, z6t, z6v, z6x, z70, z71, Nat.reduceAdd, ↓reduceIte, keepR, Hp.row, tElemx43, tPartx139, hlt', hlt2, hnn, hg, hg', ne_f hb, ne_f0 hb, lt_t hb, lt_t0 hb, ne_f hb', ne_f0 hb', lt_t hb', lt_t0 hb', Int.toNat_natCast, hle, hle', hex, hex', vb_flat hf, vb_flat hf', all_flat hf, all_flat hf', e1, w3]
          exact ih (m - 1) _ _ q1 ⟨i + 1, q2, q3, take_more ht hx hy, rfl, rfl, rfl, rfl, rfl, rfl, rfl⟩
        · have hne : ¬ xs = ys := fun e => by rw [e, hy] at hx; cases hx; exact hxy rfl
          simp (maxDischargeDepth := 16) only [z05, z08, z09, z0a, z0b, z0d, z0e, z0f, z0i, z0l, z0o, z0p, z0q, z0s, z0t, z0v, z0w, z0z, z10, z11, z13, z18, z1e, z1v, z1z, z2u, z2x, z3a, z3b, z3c, z3f, z46, z4e, z4f, z4g, z4h, z4i, z4z, z50, z51, z53, z5a, z5b, z5d, z5j, z5l, z5t, z5u, z5x, z62, z63, z6a, z6b, z6h, z6t, z6v, z6x, z70, z71, Nat.reduceAdd, ↓reduceIte, keepR, Hp.row, tElemx43, tPartx139, hlt', hlt2, hnn, hg, hg', ne_f hb, ne_f0 hb, lt_t hb, lt_t0 hb, ne_f hb', ne_f0 hb', lt_t hb', lt_t0 hb', Int.toNat_natCast, hle, hle', hex, hex', vb_flat hf, vb_flat hf', all_flat hf, all_flat hf', e1, hxy, hne]
          exact ⟨_, rfl, fun _ _ => rfl⟩
      · have hlt' : ¬ (i : Int) < (xs.length : Int) := by omega
        have : i = xs.length := by omega
        subst this
        have he := eq_true (take_all hlen ht)
        simp (maxDischargeDepth := 16) only [z05, z06, z08, z09, z0a, z0c, z0d, z0e, z0g, z0j, z0m, z0o, z0p, z0q, z0s, z0t, z0v, z0w, z0z, z11, z13, z2d, z3b, z3c, z3f, z4e, z4f, z4g, z4h, z4i, z4z, z5a, z5b, ↓reduceIte, hlt', he]
        exact ⟨_, rfl, fun _ _ => rfl⟩
    · omega
    · exact ⟨0, rfl, by omega, rfl, rfl, rfl, rfl, rfl, rfl, rfl, rfl⟩
  · have hne : ¬ xs = ys := fun e => q (by rw [e])
    simp (maxDischargeDepth := 16) only [z05, z08, z09, z0a, z0b, z0d, z0e, z0f, z0o, z0p, z0q, z0s, z0t, z0v, z0w, z0z, z10, z11, z13, z1p, z1r, z2c, z3b, z3c, z3f, z4e, z4f, z4g, z4h, z4i, z4p, z4q, z4r, z4s, z4t, z4u, z4w, z4x, z4y, z4z, z53, z5b, z5d, Nat.reduceAdd, Nat.reduceSub, tLenx43, q, hne]
    exact ⟨_, rfl, (Keeps.get (by repeat (first | exact Keeps.refl _ | refine Keeps.push ?_ _ | refine Keeps.set ?_ (by first | omega | (simp only [Hp.size_push, Hp.size_setB]; omega)) _)))⟩
abbrev A45 := Ar.agg R45 (Ar.agg R45 Ar.nil)
noncomputable def g90 := gRd A45 fun x => .bool (decide (x.1 = x.2.1))
theorem con90 : Con Try.prog (CKb Try.prog) 90 g90 := by
  refine Con.rd base ok0 _ (fun a => by simp [flatB]) ?_
  rintro h _ ⟨xs, ys, ⟨⟩⟩ hro ⟨cs, _, rfl, r, ds, _, rfl, s, rfl⟩
  dsimp only at r s ⊢
  obtain ⟨v, rfl, r⟩ := R45_inv r
  obtain ⟨w, rfl, s⟩ := R45_inv s
  obtain ⟨a, c, rfl, -, hl⟩ := slice_form r
  obtain ⟨a', c', rfl, -, hl'⟩ := slice_form s
  unfold capOpen at hl hl'
  refine ⟨xs.length + 9 + 1, ?_⟩
  show ∃ h', evalV Try.prog I0 (xs.length + 9 + 1) (.fn 90) _ h = _ ∧ _
  rw [evalV_call (P := Try.prog) (intr := I0) (f := 90) (m := 31) (rs := #[.tmp 4]) rfl Try.func90 rfl rfl rfl]
  by_cases q : (xs.length : Int) = (ys.length : Int)
  · have q' := eq_true q
    have hlen : xs.length = ys.length := by omega
    simp (maxDischargeDepth := 16) only [z04, z08, z09, z0a, z0c, z0d, z0e, z0p, z0q, z0s, z0t, z0v, z0w, z0z, z11, z13, z16, z1e, z1h, z1p, z1r, z1v, z2c, z2o, z2w, z2x, z34, z38, z39, z3b, z4a, z4e, z4f, z4g, z4h, z4i, z4m, z4n, z4p, z4q, z4r, z4s, z4t, z4u, z4w, z4x, z4y, z50, z51, z53, z54, z5a, z5c, evalC_block, Nat.reduceAdd, Nat.reduceSub, ↓reduceIte, Hp.cell, tFieldAx45x0, tLenx43, tPartx43, q']
    refine loop_rule (fun r : Option (Value × Hp) => ∃ k', r = some (.bool (decide (xs = ys)), k') ∧ ∀ b, b < h.size → k'.get b = h.get b)
      (fun m x k => ∃ i : Nat, m = xs.length - i ∧ i ≤ xs.length ∧ xs.take i = ys.take i ∧ k = (h.push (some (.cells #[.slice a xs.length c] true))).push (some (.cells #[.slice a' ys.length c'] true)) ∧ x.tmps.size = 31 ∧ x.defers = [] ∧ x.tmps.getD 2 undef = .pointer (some ⟨h.size, 0, none⟩) ∧ x.tmps.getD 3 undef = .pointer (some ⟨h.size + 1, 0, none⟩) ∧ x.tmps.getD 5 undef = .int .i64 (i : Int)) ?_ _ xs.length _ _ ?_ ?_
    · intro m n' x k hI ih
      obtain ⟨i, hm, hi, ht, rfl, hxs, hxd, l2, l3, l5⟩ := hI
      obtain ⟨g, rfl⟩ : ∃ g : Nat → Value, x = { tmps := #[g 0, g 1, .pointer (some ⟨h.size, 0, none⟩), .pointer (some ⟨h.size + 1, 0, none⟩), g 4, .int .i64 (i : Int), g 6, g 7, g 8, g 9, g 10, g 11, g 12, g 13, g 14, g 15, g 16, g 17, g 18, g 19, g 20, g 21, g 22, g 23, g 24, g 25, g 26, g 27, g 28, g 29, g 30], defers := [] } := ⟨fun k => x.tmps.getD k undef, (act_eta hxs hxd).trans (by simp only [unrollL, Nat.reduceAdd, Nat.zero_add, l2, l3, l5])⟩; clear hxs hxd l2 l3 l5
      by_cases hlt : i < xs.length
      · have hlt' : (i : Int) < (xs.length : Int) := by omega
        have hlt2 : (i : Int) < (ys.length : Int) := by omega
        obtain ⟨q1, q2, q3⟩ : m - 1 < m ∧ m - 1 = xs.length - (i + 1) ∧ i + 1 ≤ xs.length := by clear ih; omega
        obtain ⟨x, hx⟩ : ∃ y, xs[i]? = some y := ⟨_, List.getElem?_eq_getElem hlt⟩
        obtain ⟨y, hy⟩ : ∃ y, ys[i]? = some y := ⟨_, List.getElem?_eq_getElem (by omega)⟩
        obtain ⟨b, off, _, cells, ow, part, e, hb, hg, -, ⟨rfl, hf⟩, hle, hex, -⟩ := elem_at (s := 22) r hx rfl (by decide)
        cases e
        obtain ⟨b', off', _, cells', ow', part', e, hb', hg', -, ⟨rfl, hf'⟩, hle', hex', -⟩ := elem_at (s := 22) s hy rfl (by decide)
        cases e
        have hnn : (0 ≤ (i : Int)) = True := by simp
        have w3 : IntKind.i64.wrap ((i : Int) + 1) = ((i + 1 : Nat) : Int) := by rw [i64_in] <;> omega
        have e1 := eq139 hf hf'
        simp (maxDischargeDepth := 16) only [z04, z08, z09, z0a, z0b, z0d, z0e, z0p, z0q, z0s, z0t, z0v, z0z, z10, z13, z16, z1e, z1p, z1r, z1v, z2d, z2w, z2x, z34, z38, z39, z3b, z4a, z4e, z4f, z4g, z4h, z4i, z4m, z4n, z50, z51, z54, z5a, z7t, evalC_block, ↓reduceIte, Hp.cell, tFieldAx45x0, tLenx43, tPartx43, hlt']
        rw [evalDraw_modes _ _ [(0, 0, 1), (2, 1, 3), (0, 0, 4), (0, 7, 15), (2, 15, 31), (0, 0, 32), (2, 32, 96), (0, 0, 128), (0, 224, 480), (2, 480, 992), (0, 1023, 2047)] (by kernel_rfl)]
        by_cases hxy : part = part'
        · subst hxy
          simp (maxDischargeDepth := 16) only [z04, z08, z0a, z0c, z0d, z0e, z0h, z0k, z0p, z0q, z0s, z0t, z0v, z0w, z0z, z10, z11, z13, z16, z18, z1e, z1v, z1z, z24, z2u, z2w, z2x, z34, z38, z39, z3a, z3b, z46, z4a, z4e, z4f, z4g, z4h, z4i, z4m, z4n, z4z, z50, z51, z53, z54, z5a, z5c, z5j, z5l, z5t, z5u, z5x, z62, z63, z6a, z6b, z6h, z6p, z6t, z6v, z6x, z70, z71, z79, z7c, z7d, Nat.reduceAdd, ↓reduceIte, Nat.reduceLT, Int.reduceLT, keepR, Hp.cell, Hp.row, tElemx43, tFieldAx45x0, tPartx43, tPartx139, hlt', hlt2, hnn, hg, hg', ne_f hb, ne_f0 hb, lt_t hb, lt_t0 hb, ne_f hb', ne_f0 hb', lt_t hb', lt_t0 hb', Int.toNat_natCast, hle, hle', hex, hex', vb_flat hf, vb_flat hf', all_flat hf, all_flat hf', e1, w3]
          exact ih (m - 1) _ _ q1 ⟨i + 1, q2, q3, take_more ht hx hy, rfl, rfl, rfl, rfl, rfl, rfl⟩
        · have hne : ¬ xs = ys := fun e => by rw [e, hy] at hx; cases hx; exact hxy rfl
          simp (maxDischargeDepth := 16) only [z05, z08, z09, z0a, z0b, z0d, z0e, z0f, z0i, z0l, z0o, z0p, z0q, z0s, z0t, z0v, z0w, z0z, z10, z11, z13, z16, z18, z1e, z1v, z1z, z2u, z2w, z2x, z34, z38, z39, z3a, z3b, z3c, z3f, z46, z4a, z4e, z4f, z4g, z4h, z4i, z4m, z4n, z4z, z50, z51, z53, z54, z5a, z5b, z5d, z5j, z5l, z5t, z5u, z5x, z62, z63, z6a, z6b, z6h, z6p, z6t, z6v, z6x, z70, z71, z79, z7c, z7d, Nat.reduceAdd, ↓reduceIte, Nat.reduceLT, Int.reduceLT, keepR, Hp.cell, Hp.row, tElemx43, tFieldAx45x0, tPartx43, tPartx139, hlt', hlt2, hnn, hg, hg', ne_f hb, ne_f0 hb, lt_t hb, lt_t0 hb, ne_f hb', ne_f0 hb', lt_t hb', lt_t0 hb', Int.toNat_natCast, hle, hle', hex, hex', vb_flat hf, vb_flat hf', all_flat hf, all_flat hf', e1, hxy, hne]
          exact ⟨_, rfl, (Keeps.get (by repeat (first | exact Keeps.refl _ | refine Keeps.push ?_ _ | refine Keeps.set ?_ (by first | omega | (simp only [Hp.size_push, Hp.size_setB]; omega)) _)))⟩
      · have hlt' : ¬ (i : Int) < (xs.length : Int) := by omega
        have : i = xs.length := by omega
        subst this
        have he := eq_true (take_all hlen ht)
        simp (maxDischargeDepth := 16) only [z05, z06, z08, z09, z0a, z0c, z0d, z0e, z0g, z0j, z0m, z0o, z0p, z0q, z0s, z0t, z0v, z0w, z0z, z10, z11, z13, z16, z1e, z1p, z1r, z1v, z2d, z2w, z2x, z34, z38, z39, z3b, z3c, z3f, z4a, z4e, z4f, z4g, z4h, z4i, z4m, z4n, z4z, z50, z51, z54, z5a, z5b, ↓reduceIte, Hp.cell, tFieldAx45x0, tLenx43, tPartx43, hlt', he]
        exact ⟨_, rfl, (Keeps.get (by repeat (first | exact Keeps.refl _ | refine Keeps.push ?_ _ | refine Keeps.set ?_ (by first | omega | (simp only [Hp.size_push, Hp.size_setB]; omega)) _)))⟩
    · omega
    · exact ⟨0, rfl, by omega, rfl, rfl, rfl, rfl, rfl, rfl, rfl⟩
  · have hne : ¬ xs = ys := fun e => q (by rw [e])
    simp (maxDischargeDepth := 16) only [z05, z08, z09, z0a, z0b, z0d, z0e, z0f, z0o, z0p, z0q, z0s, z0t, z0v, z0w, z0z, z11, z13, z16, z1e, z1h, z1p, z1r, z1v, z2c, z2o, z2w, z2x, z34, z38, z39, z3b, z3c, z3f, z4a, z4e, z4f, z4g, z4h, z4i, z4m, z4n, z4p, z4q, z4r, z4s, z4t, z4u, z4w, z4x, z4y, z4z, z50, z51, z53, z54, z5b, z5d, Nat.reduceAdd, Nat.reduceSub, ↓reduceIte, Hp.cell, tFieldAx45x0, tLenx43, tPartx43, q, hne]
    exact ⟨_, rfl, (Keeps.get (by repeat (first | exact Keeps.refl _ | refine Keeps.push ?_ _ | refine Keeps.set ?_ (by first | omega | (simp only [Hp.size_push, Hp.size_setB]; omega)) _)))⟩

abbrev A27 := Ar.agg R27 (Ar.agg R27 Ar.nil)
noncomputable def g91 := gRd A27 fun x => .bool (decide (x.1 = x.2.1))
theorem con91 : Con Try.prog (CKb Try.prog) 91 g91 := by
  refine Con.rd base ok0 _ (fun a => by simp [flatB]) ?_
  rintro h _ ⟨xs, ys, ⟨⟩⟩ hro ⟨cs, _, rfl, r, ds, _, rfl, s, rfl⟩
  dsimp only at r s ⊢
  obtain ⟨v, rfl, r⟩ := R27_inv r
  obtain ⟨w, rfl, s⟩ := R27_inv s
  obtain ⟨a, c, rfl, -, hl⟩ := slice_form r
  obtain ⟨a', c', rfl, -, hl'⟩ := slice_form s
  unfold capOpen at hl hl'
  refine ⟨xs.length + 9 + 1, ?_⟩
  show ∃ h', evalV Try.prog I0 (xs.length + 9 + 1) (.fn 91) _ h = _ ∧ _
  rw [evalV_call (P := Try.prog) (intr := I0) (f := 91) (m := 31) (rs := #[.tmp 4]) rfl Try.func91 rfl rfl rfl]
  by_cases q : (xs.length : Int) = (ys.length : Int)
  · have q' := eq_true q
    have hlen : xs.length = ys.length := by omega
    simp (maxDischargeDepth := 16) only [z04, z08, z09, z0a, z0c, z0d, z0e, z0p, z0q, z0s, z0t, z0v, z0w, z0z, z11, z13, z16, z1e, z1h, z1p, z1r, z1v, z2c, z2o, z2w, z2x, z34, z38, z39, z3b, z4a, z4e, z4f, z4g, z4h, z4i, z4m, z4n, z4p, z4q, z4r, z4s, z4t, z4u, z4w, z4x, z4y, z50, z51, z53, z54, z5a, z5c, evalC_block, Nat.reduceAdd, Nat.reduceSub, ↓reduceIte, Hp.cell, tFieldAx27x0, tLenx25, tPartx25, q']
    refine loop_rule (fun r : Option (Value × Hp) => ∃ k', r = some (.bool (decide (xs = ys)), k') ∧ ∀ b, b < h.size → k'.get b = h.get b)
      (fun m x k => ∃ i : Nat, m = xs.length - i ∧ i ≤ xs.length ∧ xs.take i = ys.take i ∧ k = (h.push (some (.cells #[.slice a xs.length c] true))).push (some (.cells #[.slice a' ys.length c'] true)) ∧ x.tmps.size = 31 ∧ x.defers = [] ∧ x.tmps.getD 2 undef = .pointer (some ⟨h.size, 0, none⟩) ∧ x.tmps.getD 3 undef = .pointer (some ⟨h.size + 1, 0, none⟩) ∧ x.tmps.getD 5 undef = .int .i64 (i : Int)) ?_ _ xs.length _ _ ?_ ?_
    · intro m n' x k hI ih
      obtain ⟨i, hm, hi, ht, rfl, hxs, hxd, l2, l3, l5⟩ := hI
      obtain ⟨g, rfl⟩ : ∃ g : Nat → Value, x = { tmps := #[g 0, g 1, .pointer (some ⟨h.size, 0, none⟩), .pointer (some ⟨h.size + 1, 0, none⟩), g 4, .int .i64 (i : Int), g 6, g 7, g 8, g 9, g 10, g 11, g 12, g 13, g 14, g 15, g 16, g 17, g 18, g 19, g 20, g 21, g 22, g 23, g 24, g 25, g 26, g 27, g 28, g 29, g 30], defers := [] } := ⟨fun k => x.tmps.getD k undef, (act_eta hxs hxd).trans (by simp only [unrollL, Nat.reduceAdd, Nat.zero_add, l2, l3, l5])⟩; clear hxs hxd l2 l3 l5
      by_cases hlt : i < xs.length
      · have hlt' : (i : Int) < (xs.length : Int) := by omega
        have hlt2 : (i : Int) < (ys.length : Int) := by omega
        obtain ⟨q1, q2, q3⟩ : m - 1 < m ∧ m - 1 = xs.length - (i + 1) ∧ i + 1 ≤ xs.length := by clear ih; omega
        obtain ⟨x, hx⟩ : ∃ y, xs[i]? = some y := ⟨_, List.getElem?_eq_getElem hlt⟩
        obtain ⟨y, hy⟩ : ∃ y, ys[i]? = some y := ⟨_, List.getElem?_eq_getElem (by omega)⟩
        obtain ⟨b, off, _, cells, ow, part, e, hb, hg, -, ⟨rfl, hf⟩, hle, hex, -⟩ := elem_at (s := 21) r hx rfl (by decide)
        cases e
        obtain ⟨b', off', _, cells', ow', part', e, hb', hg', -, ⟨rfl, hf'⟩, hle', hex', -⟩ := elem_at (s := 21) s hy rfl (by decide)
        cases e
        have hnn : (0 ≤ (i : Int)) = True := by simp
        have w3 : IntKind.i64.wrap ((i : Int) + 1) = ((i + 1 : Nat) : Int) := by rw [i64_in] <;> omega
        have e1 := eq61 hf hf'
        simp (maxDischargeDepth := 16) only [z04, z08, z09, z0a, z0b, z0d, z0e, z0p, z0q, z0s, z0t, z0v, z0z, z10, z13, z16, z1e, z1p, z1r, z1v, z2d, z2w, z2x, z34, z38, z39, z3b, z4a, z4e, z4f, z4g, z4h, z4i, z4m, z4n, z50, z51, z54, z5a, z7t, evalC_block, ↓reduceIte, Hp.cell, tFieldAx27x0, tLenx25, tPartx25, hlt']
        rw [evalDraw_modes _ _ [(0, 0, 1), (2, 1, 3), (0, 0, 4), (0, 7, 15), (2, 15, 31), (0, 0, 32), (2, 32, 96), (0, 0, 128), (0, 224, 480), (2, 480, 992), (0, 1023, 2047)] (by kernel_rfl)]
        by_cases hxy : part = part'
        · subst hxy
          simp (maxDischargeDepth := 16) only [z04, z08, z0a, z0c, z0d, z0e, z0h, z0k, z0p, z0q, z0s, z0t, z0v, z0w, z0z, z10, z11, z13, z16, z18, z1e, z1v, z1z, z24, z2u, z2w, z2x, z34, z38, z39, z3a, z3b, z46, z4a, z4e, z4f, z4g, z4h, z4i, z4m, z4n, z4z, z50, z51, z53, z54, z5a, z5c, z5j, z5l, z5t, z5u, z5x, z62, z63, z6a, z6b, z6h, z6p, z6t, z6v, z6x, z70, z71, z79, z7c, z7d, Nat.reduceAdd, ↓reduceIte, Nat.reduceLT, Int.reduceLT, keepR, Hp.cell, Hp.row, tElemx25, tFieldAx27x0, tPartx25, tPartx61, hlt', hlt2, hnn, hg, hg', ne_f hb, ne_f0 hb, lt_t hb, lt_t0 hb, ne_f hb', ne_f0 hb', lt_t hb', lt_t0 hb', Int.toNat_natCast, hle, hle', hex, hex', vb_flat hf, vb_flat hf', all_flat hf, all_flat hf', e1, w3]
          exact ih (m - 1) _ _ q1 ⟨i + 1, q2, q3, take_more ht hx hy, rfl, rfl, rfl, rfl, rfl, rfl⟩
        · have hne : ¬ xs = ys := fun e => by rw [e, hy] at hx; cases hx; exact hxy rfl
          simp (maxDischargeDepth := 16) only [z05, z08, z09, z0a, z0b, z0d, z0e, z0f, z0i, z0l, z0o, z0p, z0q, z0s, z0t, z0v, z0w, z0z, z10, z11, z13, z16, z18, z1e, z1v, z1z, z2u, z2w, z2x, z34, z38, z39, z3a, z3b, z3c, z3f, z46, z4a, z4e, z4f, z4g, z4h, z4i, z4m, z4n, z4z, z50, z51, z53, z54, z5a, z5b, z5d, z5j, z5l, z5t, z5u, z5x, z62, z63, z6a, z6b, z6h, z6p, z6t, z6v, z6x, z70, z71, z79, z7c, z7d, Nat.reduceAdd, ↓reduceIte, Nat.reduceLT, Int.reduceLT, keepR, Hp.cell, Hp.row, tElemx25, tFieldAx27x0, tPartx25, tPartx61, hlt', hlt2, hnn, hg, hg', ne_f hb, ne_f0 hb, lt_t hb, lt_t0 hb, ne_f hb', ne_f0 hb', lt_t hb', lt_t0 hb', Int.toNat_natCast, hle, hle', hex, hex', vb_flat hf, vb_flat hf', all_flat hf, all_flat hf', e1, hxy, hne]
          exact ⟨_, rfl, (Keeps.get (by repeat (first | exact Keeps.refl _ | refine Keeps.push ?_ _ | refine Keeps.set ?_ (by first | omega | (simp only [Hp.size_push, Hp.size_setB]; omega)) _)))⟩
      · have hlt' : ¬ (i : Int) < (xs.length : Int) := by omega
        have : i = xs.length := by omega
        subst this
        have he := eq_true (take_all hlen ht)
        simp (maxDischargeDepth := 16) only [z05, z06, z08, z09, z0a, z0c, z0d, z0e, z0g, z0j, z0m, z0o, z0p, z0q, z0s, z0t, z0v, z0w, z0z, z10, z11, z13, z16, z1e, z1p, z1r, z1v, z2d, z2w, z2x, z34, z38, z39, z3b, z3c, z3f, z4a, z4e, z4f, z4g, z4h, z4i, z4m, z4n, z4z, z50, z51, z54, z5a, z5b, ↓reduceIte, Hp.cell, tFieldAx27x0, tLenx25, tPartx25, hlt', he]
        exact ⟨_, rfl, (Keeps.get (by repeat (first | exact Keeps.refl _ | refine Keeps.push ?_ _ | refine Keeps.set ?_ (by first | omega | (simp only [Hp.size_push, Hp.size_setB]; omega)) _)))⟩
    · omega
    · exact ⟨0, rfl, by omega, rfl, rfl, rfl, rfl, rfl, rfl, rfl⟩
  · have hne : ¬ xs = ys := fun e => q (by rw [e])
    simp (maxDischargeDepth := 16) only [z05, z08, z09, z0a, z0b, z0d, z0e, z0f, z0o, z0p, z0q, z0s, z0t, z0v, z0w, z0z, z11, z13, z16, z1e, z1h, z1p, z1r, z1v, z2c, z2o, z2w, z2x, z34, z38, z39, z3b, z3c, z3f, z4a, z4e, z4f, z4g, z4h, z4i, z4m, z4n, z4p, z4q, z4r, z4s, z4t, z4u, z4w, z4x, z4y, z4z, z50, z51, z53, z54, z5b, z5d, Nat.reduceAdd, Nat.reduceSub, ↓reduceIte, Hp.cell, tFieldAx27x0, tLenx25, tPartx25, q, hne]
    exact ⟨_, rfl, (Keeps.get (by repeat (first | exact Keeps.refl _ | refine Keeps.push ?_ _ | refine Keeps.set ?_ (by first | omega | (simp only [Hp.size_push, Hp.size_setB]; omega)) _)))⟩
noncomputable def TS6 : TB := [(96, g96)]
noncomputable abbrev IS6 : Intr := fun f => TS6.lookup f
theorem okS6 : IntrOk Try.prog (CKb Try.prog) IS6 := Con.table fun x hx => by
  simp only [TS6, List.mem_cons, List.not_mem_nil, or_false] at hx
  rcases hx with rfl
  · exact con96
noncomputable def g68 := gRd A45 fun x => .bool (decide (x.1 = x.2.1))
theorem con68 : Con Try.prog (CKb Try.prog) 68 g68 := by
  refine Con.rd base okS6 _ (fun a => by simp [flatB]) ?_
  rintro h _ ⟨xs, ys, ⟨⟩⟩ hro ⟨cs, _, rfl, r, ds, _, rfl, s, rfl⟩
  dsimp only at r s ⊢
  obtain ⟨v, rfl, r⟩ := R45_inv r
  obtain ⟨w, rfl, s⟩ := R45_inv s
  have c96 := call_rdk (P := Try.prog) (I := IS6) (f := 96) (spec := fun x => .bool (decide (x.1 = x.2.1))) rfl 9 (show A43.r (· < h.size) h [_, _] (xs, ys, ()) from ⟨_, _, rfl, r, _, _, rfl, s, rfl⟩)
  refine ⟨10, ?_⟩
  show ∃ h', evalV Try.prog IS6 (9 + 1) (.fn 68) _ h = _ ∧ _
  rw [evalV_call (P := Try.prog) (intr := IS6) (f := 68) (m := 10) (rs := #[.tmp 4]) rfl Try.func68 rfl rfl rfl]
  simp (maxDischargeDepth := 16) only [z05, z08, z09, z0d, z0e, z0o, z0p, z0q, z0s, z0t, z0v, z0w, z0x, z0z, z11, z16, z1e, z1h, z1l, z1v, z2o, z2w, z2x, z34, z38, z39, z3b, z3c, z3f, z3h, z4a, z4e, z4f, z4g, z4h, z4i, z4j, z4k, z4l, z4m, z4n, z4p, z4q, z4r, z4s, z4t, z4u, z4v, z4w, z4x, z4y, z4z, z50, z51, z53, z54, z7v, z7w, Nat.reduceAdd, Nat.reduceSub, ↓reduceIte, Hp.cell, hasBx96, tFieldAx45x0, tPartx43, c96]
  exact ⟨_, rfl, (Keeps.get (by repeat (first | exact Keeps.refl _ | refine Keeps.push ?_ _ | refine Keeps.set ?_ (by first | omega | (simp only [Hp.size_push, Hp.size_setB]; omega)) _)))⟩
end Go.Abs.B1
