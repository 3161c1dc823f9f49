/- Ships: equality of entries, bases, views, messages, changes. -/
import Derived.Test.YtnlhfcipapbfmaaSh6
namespace Go.Abs.B1
open Go.Proofs
set_option maxRecDepth 10000
set_option linter.all false
noncomputable def TS7 : TB := [(90, g90), (91, g91)]
noncomputable abbrev IS7 : Intr := fun f => TS7.lookup f
theorem okS7 : IntrOk Try.prog (CKb Try.prog) IS7 := Con.table fun x hx => by
  simp only [TS7, List.mem_cons, List.not_mem_nil, or_false] at hx
  rcases hx with rfl | rfl
  · exact con90
  · exact con91
abbrev A34 := Ar.one R34 (Ar.one R34 Ar.nil)
noncomputable def g59 := gRd A34 fun x => .bool (decide (x.1 = x.2.1))
theorem con59 : Con Try.prog (CKb Try.prog) 59 g59 := by
  refine Con.rd base okS7 _ (fun a => by simp [flatB]) ?_
  rintro h _ ⟨xs, ys, ⟨⟩⟩ hro ⟨v, _, rfl, r, w, _, rfl, s, rfl⟩
  dsimp only at r s ⊢
  obtain ⟨a, c, rfl, -, hl⟩ := slice_form r
  obtain ⟨a', c', rfl, -, hl'⟩ := slice_form s
  unfold capOpen at hl hl'
  refine ⟨xs.length + 9 + 1, ?_⟩
  show ∃ h', evalV Try.prog IS7 (xs.length + 9 + 1) (.fn 59) _ h = _ ∧ _
  rw [evalV_call (P := Try.prog) (intr := IS7) (f := 59) (m := 68) (rs := #[.tmp 4]) rfl Try.func59 rfl rfl rfl]
  by_cases q : (xs.length : Int) = (ys.length : Int)
  · have q' := eq_true q
    have hlen : xs.length = ys.length := by omega
    simp (maxDischargeDepth := 16) only [z04, z08, z09, z0a, z0c, z0d, z0e, z0p, z0q, z0s, z0t, z0v, z0w, z0z, z10, z11, z13, z1p, z1r, z2c, z3b, z4e, z4f, z4g, z4h, z4i, z4p, z4q, z4r, z4s, z4t, z4u, z4w, z4x, z4y, z53, z5a, z5c, evalC_block, Nat.reduceAdd, Nat.reduceSub, tLenx34, q']
    refine loop_rule (fun r : Option (Value × Hp) => ∃ k', r = some (.bool (decide (xs = ys)), k') ∧ ∀ b, b < h.size → k'.get b = h.get b)
      (fun m x k => ∃ i : Nat, m = xs.length - i ∧ i ≤ xs.length ∧ xs.take i = ys.take i ∧ k = h ∧ x.tmps.size = 68 ∧ x.defers = [] ∧ x.tmps.getD 0 undef = .slice a xs.length c ∧ x.tmps.getD 1 undef = .slice a' ys.length c' ∧ x.tmps.getD 12 undef = .int .i64 (xs.length : Int) ∧ x.tmps.getD 13 undef = .int .i64 (i : Int)) ?_ _ xs.length _ _ ?_ ?_
    · intro m n' x k hI ih
      obtain ⟨i, hm, hi, ht, rfl, hxs, hxd, l0, l1, l12, l13⟩ := hI
      obtain ⟨g, rfl⟩ : ∃ g : Nat → Value, x = { tmps := #[.slice a xs.length c, .slice a' ys.length c', g 2, g 3, g 4, g 5, g 6, g 7, g 8, g 9, g 10, g 11, .int .i64 (xs.length : Int), .int .i64 (i : Int), g 14, g 15, g 16, g 17, g 18, g 19, g 20, g 21, g 22, g 23, g 24, g 25, g 26, g 27, g 28, g 29, g 30, g 31, g 32, g 33, g 34, g 35, g 36, g 37, g 38, g 39, g 40, g 41, g 42, g 43, g 44, g 45, g 46, g 47, g 48, g 49, g 50, g 51, g 52, g 53, g 54, g 55, g 56, g 57, g 58, g 59, g 60, g 61, g 62, g 63, g 64, g 65, g 66, g 67], defers := [] } := ⟨fun k => x.tmps.getD k undef, (act_eta hxs hxd).trans (by simp only [unrollL, Nat.reduceAdd, Nat.zero_add, l0, l1, l12, l13])⟩; clear hxs hxd l0 l1 l12 l13
      by_cases hlt : i < xs.length
      · have hlt' : (i : Int) < (xs.length : Int) := by omega
        have hlt2 : (i : Int) < (ys.length : Int) := by omega
        obtain ⟨q1, q2, q3⟩ : m - 1 < m ∧ m - 1 = xs.length - (i + 1) ∧ i + 1 ≤ xs.length := by clear ih; omega
        obtain ⟨x, hx⟩ : ∃ y, xs[i]? = some y := ⟨_, List.getElem?_eq_getElem hlt⟩
        obtain ⟨y, hy⟩ : ∃ y, ys[i]? = some y := ⟨_, List.getElem?_eq_getElem (by omega)⟩
        obtain ⟨b, off, _, cells, ow, part, e, hb, hg, -, hp, hle, -, he⟩ := elem_at (s := 4) r hx rfl (by decide)
        cases e
        obtain ⟨b', off', _, cells', ow', part', e, hb', hg', -, hp', hle', -, he'⟩ := elem_at (s := 4) s hy rfl (by decide)
        cases e
        obtain ⟨x1, x2, x3, x4⟩ := x
        obtain ⟨y1, y2, y3, y4⟩ := y
        obtain ⟨w, rfl, -, -, -, hw⟩ := R85_inv hp
        obtain ⟨w', rfl, -, -, -, hw'⟩ := R85_inv hp'
        dsimp only at hw hw' he he'
        have c90 := call_rdk (P := Try.prog) (I := IS7) (f := 90) (spec := fun x => .bool (decide (x.1 = x.2.1))) rfl (xs.length + 9) (show A45.r (· < k.size) k [_, _] (x4, y4, ()) from ⟨_, _, rfl, hw, _, _, rfl, hw', rfl⟩) (by omega)
        have e0 : cells[off + i * 4]? = some (.int .u64 x1) := he 0 (by decide)
        have e1 : cells[off + (i * 4 + 1)]? = some (.int .i64 x2) := he 1 (by decide)
        have e2 : cells[off + (i * 4 + 2)]? = some (.int .u32 x3) := he 2 (by decide)
        have e3 : cells.extract (off + (i * 4 + 3)) (off + (i * 4 + 4)) = #[w] := extract_one (he 3 (by decide))
        have e0' : cells'[off' + i * 4]? = some (.int .u64 y1) := he' 0 (by decide)
        have e1' : cells'[off' + (i * 4 + 1)]? = some (.int .i64 y2) := he' 1 (by decide)
        have e2' : cells'[off' + (i * 4 + 2)]? = some (.int .u32 y3) := he' 2 (by decide)
        have e3' : cells'.extract (off' + (i * 4 + 3)) (off' + (i * 4 + 4)) = #[w'] := extract_one (he' 3 (by decide))
        have o1 := fun kept bits => vb_old (kept := kept) (bits := bits) (R43.rvin hw w (by simp))
        have o2 := fun kept bits => vb_old (kept := kept) (bits := bits) (R43.rvin hw' w' (by simp))
        have hnn : (0 ≤ (i : Int)) = True := by simp
        have w3 : IntKind.i64.wrap ((i : Int) + 1) = ((i + 1 : Nat) : Int) := by rw [i64_in] <;> omega
        simp (maxDischargeDepth := 16) only [z04, z08, z09, z0a, z0b, z0d, z0e, z0p, z0q, z0s, z0t, z0v, z0z, z10, z11, z13, z2d, z3b, z4e, z4f, z4g, z4h, z4i, z5a, z7t, evalC_block, hlt']
        rw [evalDraw_modes _ _ [(0, 0, 1), (0, 0, 2), (0, 3, 7), (0, 7, 15), (2, 15, 31), (0, 0, 32), (0, 0, 64), (0, 96, 224), (0, 224, 480), (2, 480, 992), (0, 1023, 2047), (0, 2047, 4095), (0, 4095, 8191), (0, 4095, 12287), (0, 16383, 32767), (0, 32767, 65535), (2, 65535, 131071), (0, 4095, 135167), (0, 4095, 266239), (0, 397311, 921599), (0, 921599, 1970175), (2, 1970175, 4067327), (0, 4194303, 8388607), (0, 8388607, 16777215), (0, 16777215, 33554431), (0, 33554431, 67108863), (0, 33554431, 100663295), (0, 134217727, 268435455), (0, 268435455, 536870911), (2, 536870911, 1073741823), (0, 33554431, 1107296255), (0, 33554431, 2181038079), (0, 3254779903, 7549747199), (0, 7549747199, 16139681791), (2, 16139681791, 33319550975), (0, 34359738367, 68719476735), (0, 68719476735, 137438953471), (0, 137438953471, 274877906943), (0, 274877906943, 549755813887), (0, 274877906943, 824633720831), (0, 1099511627775, 2199023255551), (0, 2199023255551, 4398046511103), (2, 4398046511103, 8796093022207), (0, 274877906943, 9070970929151), (0, 274877906943, 17867063951359), (0, 26663156973567, 61847529062399), (0, 61847529062399, 132216273240063), (2, 132216273240063, 272953761595391), (1, 281474976710655, 562949953421311), (0, 562949953421311, 1125899906842623), (0, 1125899906842623, 2251799813685247)] (by kernel_rfl)]
        by_cases h1 : x1 = y1
        · subst h1
          by_cases h2 : x2 = y2
          · subst h2
            by_cases h3 : x3 = y3
            · subst h3
              by_cases h4 : x4 = y4
              · subst h4
                simp (maxDischargeDepth := 16) only [z04, z08, z0a, z0c, z0d, z0e, z0h, z0k, z0p, z0q, z0s, z0t, z0v, z0w, z0x, z0z, z10, z12, z13, z14, z16, z18, z1e, z1l, z1v, z1y, z1z, z24, z2c, z2h, z2u, z2w, z2x, z3a, z3b, z3h, z44, z45, z46, z4e, z4f, z4g, z4h, z4i, z4j, z4k, z4l, z4m, z4n, z4o, z4p, z4q, z4r, z4s, z4u, z4v, z4z, z50, z51, z52, z53, z54, z59, z5a, z5c, z5e, z5f, z5j, z5l, z5n, z5t, z5u, z5x, z5y, z60, z61, z62, z63, z6a, z6b, z6d, z6g, z6h, z6j, z6k, z6t, z6v, z6x, z70, z71, z7v, z7y, Nat.reduceAdd, ↓reduceIte, yielded, keepR, Hp.cell, Hp.row, hasBx90, tElemx34, tFieldAx85x0, tFieldAx85x1, tFieldAx85x2, tFieldAx85x3, tPartx3, tPartx22, tPartx28, tPartx45, hlt', hlt2, hnn, hg, hg', ne_f hb, ne_f0 hb, lt_t hb, lt_t0 hb, ne_f hb', ne_f0 hb', lt_t hb', lt_t0 hb', Int.toNat_natCast, hle, hle', e0, e1, e2, e3, e0', e1', e2', e3', c90, o1, o2, w3]
                exact ih (m - 1) _ _ q1 ⟨i + 1, q2, q3, take_more ht hx hy, rfl, rfl, rfl, rfl, rfl, rfl, rfl⟩
              · have hne : ¬ xs = ys := fun e => by rw [e, hy] at hx; cases hx; exact h4 rfl
                simp (maxDischargeDepth := 16) only [z05, z08, z09, z0a, z0b, z0d, z0e, z0f, z0i, z0l, z0o, z0p, z0q, z0s, z0t, z0v, z0w, z0x, z0z, z10, z11, z12, z13, z14, z16, z18, z1e, z1l, z1v, z1y, z1z, z2c, z2h, z2u, z2w, z2x, z3a, z3b, z3c, z3f, z3h, z44, z45, z46, z4e, z4f, z4g, z4h, z4i, z4j, z4k, z4l, z4m, z4n, z4o, z4p, z4q, z4r, z4s, z4u, z4v, z4z, z50, z51, z52, z53, z54, z59, z5a, z5b, z5c, z5d, z5e, z5f, z5j, z5l, z5n, z5t, z5u, z5x, z5y, z60, z61, z62, z63, z6a, z6b, z6d, z6g, z6h, z6j, z6k, z6t, z6v, z6x, z70, z71, z7v, z7y, Nat.reduceAdd, ↓reduceIte, yielded, keepR, Hp.cell, Hp.row, hasBx90, tElemx34, tFieldAx85x0, tFieldAx85x1, tFieldAx85x2, tFieldAx85x3, tPartx3, tPartx22, tPartx28, tPartx45, hlt', hlt2, hnn, hg, hg', ne_f hb, ne_f0 hb, lt_t hb, lt_t0 hb, ne_f hb', ne_f0 hb', lt_t hb', lt_t0 hb', Int.toNat_natCast, hle, hle', e0, e1, e2, e3, e0', e1', e2', e3', c90, o1, o2, h4, hne]
                exact ⟨_, rfl, fun _ _ => rfl⟩
            · have hne : ¬ xs = ys := fun e => by rw [e, hy] at hx; cases hx; exact h3 rfl
              simp (maxDischargeDepth := 16) only [z05, z08, z09, z0a, z0b, z0d, z0e, z0f, z0i, z0l, z0o, z0p, z0q, z0s, z0t, z0v, z0w, z0z, z10, z11, z12, z13, z16, z18, z1e, z1v, z1y, z1z, z2c, z2u, z2w, z2x, z3a, z3b, z3c, z3f, z3k, z46, z4e, z4f, z4g, z4h, z4i, z4m, z4n, z4o, z4z, z50, z51, z52, z53, z54, z59, z5a, z5b, z5c, z5d, z5e, z5j, z5l, z5t, z5u, z5x, z5y, z60, z61, z62, z63, z6a, z6b, z6h, z6j, z6t, z6v, z6x, z70, z71, Nat.reduceAdd, ↓reduceIte, yielded, keepR, Hp.cell, tElemx34, tFieldAx85x0, tFieldAx85x1, tFieldAx85x2, tPartx3, tPartx22, tPartx28, hlt', hlt2, hnn, hg, hg', ne_f hb, ne_f0 hb, lt_t hb, lt_t0 hb, ne_f hb', ne_f0 hb', lt_t hb', lt_t0 hb', Int.toNat_natCast, e0, e1, e2, e0', e1', e2', h3, hne]
              exact ⟨_, rfl, fun _ _ => rfl⟩
          · have hne : ¬ xs = ys := fun e => by rw [e, hy] at hx; cases hx; exact h2 rfl
            simp (maxDischargeDepth := 16) only [z05, z08, z09, z0a, z0b, z0d, z0e, z0f, z0i, z0l, z0o, z0p, z0q, z0s, z0t, z0v, z0w, z0z, z10, z11, z12, z13, z16, z18, z1e, z1v, z1y, z1z, z2c, z2u, z2w, z2x, z3a, z3b, z3c, z3f, z3k, z46, z4e, z4f, z4g, z4h, z4i, z4m, z4n, z4o, z4z, z50, z51, z52, z53, z54, z59, z5a, z5b, z5c, z5d, z5e, z5j, z5l, z5t, z5u, z5x, z5y, z60, z61, z62, z63, z6a, z6b, z6h, z6j, z6t, z6v, z6x, z70, z71, Nat.reduceAdd, ↓reduceIte, yielded, keepR, Hp.cell, tElemx34, tFieldAx85x0, tFieldAx85x1, tPartx3, tPartx22, hlt', hlt2, hnn, hg, hg', ne_f hb, ne_f0 hb, lt_t hb, lt_t0 hb, ne_f hb', ne_f0 hb', lt_t hb', lt_t0 hb', Int.toNat_natCast, e0, e1, e0', e1', h2, hne]
            exact ⟨_, rfl, fun _ _ => rfl⟩
        · have hne : ¬ xs = ys := fun e => by rw [e, hy] at hx; cases hx; exact h1 rfl
          simp (maxDischargeDepth := 16) only [z05, z08, z09, z0a, z0b, z0d, z0e, z0f, z0i, z0l, z0o, z0p, z0q, z0s, z0t, z0v, z0w, z0z, z10, z11, z12, z13, z16, z18, z1e, z1v, z1y, z1z, z2c, z2u, z2w, z2x, z3b, z3c, z3f, z3k, z46, z4e, z4f, z4g, z4h, z4i, z4m, z4n, z4o, z4z, z50, z51, z52, z53, z54, z59, z5a, z5b, z5d, z5j, z5l, z5t, z5u, z5x, z5y, z60, z61, z62, z63, z6a, z6b, z6h, z6j, z6t, z6v, z6x, z70, z71, Nat.reduceAdd, ↓reduceIte, yielded, keepR, Hp.cell, tElemx34, tFieldAx85x0, tPartx22, hlt', hlt2, hnn, hg, hg', ne_f hb, ne_f0 hb, lt_t hb, lt_t0 hb, ne_f hb', ne_f0 hb', lt_t hb', lt_t0 hb', Int.toNat_natCast, e0, e0', h1, hne]
          exact ⟨_, rfl, fun _ _ => rfl⟩
      · have hlt' : ¬ (i : Int) < (xs.length : Int) := by omega
        have : i = xs.length := by omega
        subst this
        have he := eq_true (take_all hlen ht)
        simp (maxDischargeDepth := 16) only [z05, z06, z08, z09, z0a, z0c, z0d, z0e, z0g, z0j, z0m, z0o, z0p, z0q, z0s, z0t, z0v, z0w, z0z, z11, z13, z2d, z3b, z3c, z3f, z4e, z4f, z4g, z4h, z4i, z4z, z5a, z5b, ↓reduceIte, hlt', he]
        exact ⟨_, rfl, fun _ _ => rfl⟩
    · omega
    · exact ⟨0, rfl, by omega, rfl, rfl, rfl, rfl, rfl, rfl, rfl, rfl⟩
  · have hne : ¬ xs = ys := fun e => q (by rw [e])
    simp (maxDischargeDepth := 16) only [z05, z08, z09, z0a, z0b, z0d, z0e, z0f, z0o, z0p, z0q, z0s, z0t, z0v, z0w, z0z, z10, z11, z13, z1p, z1r, z2c, z3b, z3c, z3f, z4e, z4f, z4g, z4h, z4i, z4p, z4q, z4r, z4s, z4t, z4u, z4w, z4x, z4y, z4z, z53, z5b, z5d, Nat.reduceAdd, Nat.reduceSub, tLenx34, q, hne]
    exact ⟨_, rfl, (Keeps.get (by repeat (first | exact Keeps.refl _ | refine Keeps.push ?_ _ | refine Keeps.set ?_ (by first | omega | (simp only [Hp.size_push, Hp.size_setB]; omega)) _)))⟩
end Go.Abs.B1
