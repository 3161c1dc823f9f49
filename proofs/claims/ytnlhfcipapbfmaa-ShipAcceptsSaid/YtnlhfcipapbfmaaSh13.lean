/- Ships: matches. -/
import Derived.Test.YtnlhfcipapbfmaaSh12
import Derived.Test.YtnlhfcipapbfmaaSh1
namespace Go.Abs.B1
open Go.Proofs
set_option maxRecDepth 10000
set_option maxHeartbeats 4000000
set_option linter.all false
def f23 (m l : Int) (y : T47) : Int := min (if y.1 = 2 then (if y.2.2.2.2.2.2.2.1 = true then max m y.2.2.2.2.2.2.2.2.1 else y.2.2.2.2.2.2.2.2.1) else m) l
abbrev AM := Ar.one (Rp.int .u64) (Ar.one (Rp.int .u64) (Ar.agg R47 Ar.nil))
noncomputable def g23 := gRd AM fun x => .int .u64 (f23 x.1 x.2.1 x.2.2.1)
noncomputable def g25 := gRd AM fun x => .int .u64 (f23 x.1 x.2.1 x.2.2.1)
theorem con23 : Con Try.prog (CKb Try.prog) 23 g23 := by
  refine Con.rd base ok0 _ (fun a => by simp [flatB]) ?_
  rintro h _ ⟨m, l, y, ⟨⟩⟩ hro ⟨v, _, rfl, ⟨e, hm⟩, w, _, rfl, ⟨e', hl⟩, cs, _, rfl, r, rfl⟩
  simp only [List.cons.injEq, and_true] at e e'
  subst e e'
  dsimp only at r ⊢
  obtain ⟨v1, v2, v3, rfl, -⟩ := R47_inv r
  refine ⟨1, ?_⟩
  show ∃ h', evalV Try.prog I0 (0 + 1) (.fn 23) _ h = _ ∧ _
  rw [evalV_call (P := Try.prog) (intr := I0) (f := 23) (m := 23) (rs := #[.tmp 6]) rfl Try.func23 rfl rfl rfl]
  by_cases q1 : y.1 = 2
  · cases q2 : y.2.2.2.2.2.2.2.1 <;> simp (maxDischargeDepth := 16) only [z05, z08, z09, z0a, z0b, z0c, z0d, z0e, z0h, z0o, z0p, z0q, z0s, z0t, z0v, z0w, z0z, z10, z11, z13, z16, z1e, z1h, z1t, z1u, z1v, z2c, z2j, z2l, z2o, z2w, z2x, z34, z3b, z3c, z3f, z4e, z4f, z4g, z4h, z4i, z4j, z4k, z4l, z4m, z4n, z4o, z4p, z4q, z4r, z4s, z4t, z4u, z4w, z4x, z4y, z4z, z50, z51, z53, z54, z59, z5a, z5c, evalC_block, Nat.reduceAdd, Nat.reduceSub, ↓reduceIte, Hp.cell, tFieldAx47x0, tFieldAx47x7, tFieldAx47x8, tPartx3, tPartx4, tPartx22, eq_true q1, q2, f23] <;> exact ⟨_, rfl, (Keeps.get (by repeat (first | exact Keeps.refl _ | refine Keeps.push ?_ _ | refine Keeps.set ?_ (by first | omega | (simp only [Hp.size_push, Hp.size_setB]; omega)) _)))⟩
  · simp (maxDischargeDepth := 16) only [z04, z05, z08, z09, z0a, z0b, z0d, z0e, z0h, z0o, z0p, z0q, z0s, z0t, z0v, z0w, z0z, z10, z11, z13, z16, z1e, z1h, z1u, z1v, z2c, z2l, z2o, z2w, z2x, z34, z3b, z3c, z3f, z4e, z4f, z4g, z4h, z4i, z4j, z4k, z4l, z4m, z4n, z4p, z4q, z4r, z4s, z4t, z4u, z4w, z4x, z4y, z4z, z50, z51, z53, z54, z5b, z5d, evalC_block, Nat.reduceAdd, Nat.reduceSub, ↓reduceIte, Hp.cell, tFieldAx47x0, tPartx3, q1, f23]
    exact ⟨_, rfl, (Keeps.get (by repeat (first | exact Keeps.refl _ | refine Keeps.push ?_ _ | refine Keeps.set ?_ (by first | omega | (simp only [Hp.size_push, Hp.size_setB]; omega)) _)))⟩
theorem con25 : Con Try.prog (CKb Try.prog) 25 g25 := by
  refine Con.rd base ok0 _ (fun a => by simp [flatB]) ?_
  rintro h _ ⟨m, l, y, ⟨⟩⟩ hro ⟨v, _, rfl, ⟨e, hm⟩, w, _, rfl, ⟨e', hl⟩, cs, _, rfl, r, rfl⟩
  simp only [List.cons.injEq, and_true] at e e'
  subst e e'
  dsimp only at r ⊢
  obtain ⟨v1, v2, v3, rfl, -⟩ := R47_inv r
  refine ⟨1, ?_⟩
  show ∃ h', evalV Try.prog I0 (0 + 1) (.fn 25) _ h = _ ∧ _
  rw [evalV_call (P := Try.prog) (intr := I0) (f := 25) (m := 31) (rs := #[.tmp 6]) rfl Try.func25 rfl rfl rfl]
  by_cases q1 : y.1 = 2
  · cases q2 : y.2.2.2.2.2.2.2.1 <;> simp (maxDischargeDepth := 16) only [z04, z05, z08, z09, z0a, z0b, z0c, z0d, z0e, z0o, z0p, z0q, z0r, z0s, z0t, z0v, z0w, z0z, z10, z11, z12, z13, z14, z16, z1e, z1h, z1t, z1u, z1v, z1y, z2b, z2h, z2j, z2l, z2o, z2w, z2x, z34, z3b, z3c, z3f, z4e, z4f, z4g, z4h, z4i, z4j, z4k, z4l, z4m, z4n, z4o, z4p, z4q, z4r, z4s, z4t, z4u, z4w, z4x, z4y, z4z, z50, z51, z52, z53, z54, z59, z5a, z5c, z5d, z5e, Nat.reduceAdd, Nat.reduceSub, ↓reduceIte, yielded, Hp.cell, tFieldAx47x0, tFieldAx47x7, tFieldAx47x8, tPartx3, tPartx4, tPartx22, eq_true q1, q2, f23] <;> exact ⟨_, rfl, (Keeps.get (by repeat (first | exact Keeps.refl _ | refine Keeps.push ?_ _ | refine Keeps.set ?_ (by first | omega | (simp only [Hp.size_push, Hp.size_setB]; omega)) _)))⟩
  · simp (maxDischargeDepth := 16) only [z04, z05, z08, z09, z0a, z0c, z0d, z0e, z0o, z0p, z0q, z0r, z0s, z0t, z0v, z0w, z0z, z10, z11, z12, z13, z16, z1e, z1h, z1u, z1v, z1y, z2b, z2l, z2o, z2w, z2x, z34, z3b, z3c, z3f, z3l, z4e, z4f, z4g, z4h, z4i, z4j, z4k, z4l, z4m, z4n, z4o, z4p, z4q, z4r, z4s, z4t, z4u, z4w, z4x, z4y, z4z, z50, z51, z52, z53, z54, z59, z5b, Nat.reduceAdd, Nat.reduceSub, ↓reduceIte, yielded, Hp.cell, tFieldAx47x0, tPartx3, q1, f23]
    exact ⟨_, rfl, (Keeps.get (by repeat (first | exact Keeps.refl _ | refine Keeps.push ?_ _ | refine Keeps.set ?_ (by first | omega | (simp only [Hp.size_push, Hp.size_setB]; omega)) _)))⟩
noncomputable abbrev g12 := gT
noncomputable def TS13 : TB := [(12, g12), (23, g23), (25, g25)]
noncomputable abbrev IS13 : Intr := fun f => TS13.lookup f
theorem okS13 : IntrOk Try.prog (CKb Try.prog) IS13 := Con.table fun x hx => by
  simp only [TS13, List.mem_cons, List.not_mem_nil, or_false] at hx
  rcases hx with rfl | rfl | rfl
  · exact con12
  · exact con23
  · exact con25
theorem run4 (h : Hp) (v : Value) (xs : T64) (r : R64.r false (· < h.size) h [v] xs) (hro : h.ro ≤ h.size) : ∃ N, Al h (fun _ w => w = .bool true) (evalV Try.prog IS13 N (.fn 4) #[v] h) := by
  obtain ⟨a, c, rfl, -, hl⟩ := slice_form r
  unfold capOpen at hl
  have hlenb : ∃ M, ∀ x ∈ xs, x.2.2.2.2.2.2.2.1.length ≤ M := by
    clear r hl
    induction xs with
    | nil => exact ⟨0, by simp⟩
    | cons x xs ih =>
      obtain ⟨M, hM⟩ := ih
      exact ⟨max M x.2.2.2.2.2.2.2.1.length, fun y hy => by
        rcases List.mem_cons.1 hy with rfl | hy
        · omega
        · have := hM y hy; omega⟩
  obtain ⟨M, hM⟩ := hlenb
  obtain ⟨N, hN⟩ : ∃ N, N = xs.length + M + 9 := ⟨_, rfl⟩
  refine ⟨N + 1, ?_⟩
  rw [evalV_call (P := Try.prog) (intr := IS13) (f := 4) (m := 34) (rs := #[.tmp 2]) rfl Try.func4 rfl rfl rfl]
  have c12 : ∀ n k, evalV Try.prog IS13 (n + 1) (.fn 12) #[] k = some (.bool true, k) := fun n k => (evalV_intr (g := g12) rfl).trans rfl
  have c12' : ∀ k, evalV Try.prog IS13 N (.fn 12) #[] k = some (.bool true, k) := fun k => by obtain ⟨n, rfl⟩ : ∃ n, N = n + 1 := ⟨N - 1, by omega⟩; exact c12 _ k
  simp (maxDischargeDepth := 16) only [z04, z08, z09, z0a, z0c, z0d, z0e, z0p, z0q, z0s, z0t, z0v, z0w, z0x, z0z, z10, z11, z14, z1l, z1p, z1r, z2h, z3b, z3h, z4e, z4f, z4g, z4h, z4i, z4j, z4l, z4p, z4q, z4r, z4s, z4t, z4u, z4v, z4w, z4x, z4y, z53, z5c, evalC_block, Nat.reduceSub, ↓reduceIte, hasBx12, tLenx64, c12']
  refine loop_rule (Al h _) (fun m x k => ∃ i : Nat, m = xs.length - i ∧ i ≤ xs.length ∧ Keeps h k ∧ k.ro = h.ro ∧ x.tmps.size = 34 ∧ x.defers = [] ∧ x.tmps.getD 7 undef = .slice a xs.length c ∧ x.tmps.getD 8 undef = .int .i64 (xs.length : Int) ∧ x.tmps.getD 9 undef = .int .i64 (i : Int)) ?_ _ xs.length _ _ ?_ ?_
  · intro m n' x k hI' ih
    obtain ⟨i, hm, hi, hk, hr, hxs, hxd, l7, l8, l9⟩ := hI'
    obtain ⟨g, rfl⟩ : ∃ g : Nat → Value, x = { tmps := #[g 0, g 1, g 2, g 3, g 4, g 5, g 6, .slice a xs.length c, .int .i64 (xs.length : Int), .int .i64 (i : Int), g 10, g 11, g 12, g 13, g 14, g 15, g 16, g 17, g 18, g 19, g 20, g 21, g 22, g 23, g 24, g 25, g 26, g 27, g 28, g 29, g 30, g 31, g 32, g 33], defers := [] } := ⟨fun k => x.tmps.getD k undef, (act_eta hxs hxd).trans (by simp only [unrollL, Nat.reduceAdd, Nat.zero_add, l7, l8, l9])⟩; clear hxs hxd l7 l8 l9
    by_cases hlt : i < xs.length
    · have hlt' : (i : Int) < (xs.length : Int) := by omega
      obtain ⟨q1, q2, q3⟩ : m - 1 < m ∧ m - 1 = xs.length - (i + 1) ∧ i + 1 ≤ xs.length := by clear ih; omega
      obtain ⟨y, hy⟩ : ∃ y, xs[i]? = some y := ⟨_, List.getElem?_eq_getElem hlt⟩
      have hyM := hM y (List.mem_of_getElem? hy)
      obtain ⟨b, off, _, cells, ow, part, e, hb0, hg, -, hp', hle, hex, -⟩ := elem_at (s := 25) r hy rfl (by decide)
      cases e
      obtain ⟨y1, y2, y3⟩ := y
      obtain ⟨p1, p2, rfl, hp1, hp2⟩ := Rp.pair_inv hp'
      obtain ⟨p3, p4, rfl, hp3, hp4⟩ := Rp.pair_inv hp2
      obtain ⟨rfl, d1⟩ := Rp.int_inv hp1
      obtain ⟨rfl, d2⟩ := Rp.int_inv hp3
      dsimp only at hp4 hyM
      have hp40 := hp4
      obtain ⟨u1, u2, u3, rfl, -, -, -, -, -, -, hu1, -, -, -, -, -, hu2, -, -, -, -, -, -, -, hu3, -⟩ := R47_inv hp4
      have hs := hk.size
      have hb : b < h.size := hb0
      have hb' : b < k.size := by omega
      have hg' : k.get b = some (.cells cells ow) := by rw [hk.get b hb]; exact hg
      have hnn : (0 ≤ (i : Int)) = True := by simp
      have w3 : IntKind.i64.wrap ((i : Int) + 1) = ((i + 1 : Nat) : Int) := by rw [i64_in] <;> omega
      have r0 : (k.ro ≤ k.size) = True := by rw [hr]; simp; omega
      have r1 : ∀ j, (k.ro ≤ k.size + j) = True := fun j => by rw [hr]; simp; omega
      have o1 : oneC u1 = true := R34.rone hu1 u1 (by simp)
      have o2 : oneC u2 = true := R25.rone hu2 u2 (by simp)
      have o3 : oneC u3 = true := R43.rone hu3 u3 (by simp)
      have vo : ∀ u, vin (· < h.size) u → ∀ kept bits, vokB (allow (k.size + 1) kept bits) u = true := fun u hu kept bits => vb_old (vin_mono (fun b hb => by omega) hu)
      have vo1 := vo u1 (R34.rvin hu1 u1 (by simp))
      have vo2 := vo u2 (R25.rvin hu2 u2 (by simp))
      have vo3 := vo u3 (R43.rvin hu3 u3 (by simp))
      by_cases q20 : (i : Int) = 20
      · simp (maxDischargeDepth := 16) only [z04, z05, z06, z08, z09, z0a, z0b, z0d, z0e, z0g, z0j, z0m, z0o, z0p, z0q, z0s, z0t, z0u, z0v, z0w, z0z, z10, z11, z13, z18, z1e, z1f, z1g, z1v, z1w, z1x, z1z, z2b, z2d, z2o, z2u, z2x, z2y, z2z, z34, z3a, z3b, z3c, z3f, z3p, z3q, z3v, z3w, z44, z45, z46, z49, z4c, z4e, z4f, z4g, z4h, z4i, z4p, z4q, z4r, z4t, z4u, z4z, z50, z51, z53, z5a, z5f, z72, evalC_block, Nat.reduceEqDiff, Nat.reduceAdd, ↓reduceIte, Hp.row, Hp.wr, tElemx64, tPartx66, tSizex66, tZerox66, hlt', hnn, hg', ne_f hb', ne_f0 hb', lt_t hb', lt_t0 hb', hle, hex, Int.toNat_natCast, r0, eq_true q20, o1, o2, o3]
        exact Al.done (by repeat (first | assumption | exact Keeps.refl _ | refine Keeps.push ?_ _ | refine Keeps.set ?_ (by first | omega | (simp only [Hp.size_push, Hp.size_setB]; omega)) _)) hr rfl
      · simp (maxDischargeDepth := 16) only [z04, z08, z09, z0a, z0b, z0c, z0d, z0e, z0p, z0q, z0s, z0t, z0u, z0v, z0w, z0z, z10, z11, z13, z18, z1e, z1f, z1g, z1v, z1w, z1x, z1z, z2b, z2d, z2o, z2u, z2x, z2y, z2z, z34, z3a, z3b, z3p, z3q, z3v, z3w, z44, z45, z46, z49, z4c, z4e, z4f, z4g, z4h, z4i, z4p, z4q, z4r, z4t, z4u, z4z, z50, z51, z53, z5a, z5b, z5f, z72, z7t, evalC_block, Nat.reduceAdd, ↓reduceIte, Hp.row, Hp.wr, tElemx64, tPartx66, tSizex66, tZerox66, hlt', hnn, hg', ne_f hb', ne_f0 hb', lt_t hb', lt_t0 hb', hle, hex, Int.toNat_natCast, r0, q20, o1, o2, o3]
        rw [evalDraw_modes _ _ [(0, 0, 1), (2, 1, 3), (0, 0, 4), (2, 4, 12), (0, 0, 16), (2, 16, 48), (2, 48, 112), (2, 127, 255), (0, 0, 256), (2, 256, 768), (0, 0, 1024), (2, 1024, 3072), (0, 0, 4096), (2, 4096, 12288), (2, 12543, 28927), (1, 32767, 65535), (0, 65535, 131071)] (by kernel_rfl)]
        simp (maxDischargeDepth := 16) only [z0t, z0v, z0x, z0z, z16, z1e, z1l, z1v, z2w, z2x, z33, z3b, z3h, z3x, z3y, z3z, z40, z41, z43, z44, z45, z46, z4a, z4b, z4e, z4f, z4g, z4h, z4i, z4j, z4k, z4l, z4m, z4n, z4o, z4p, z4q, z4r, z4s, z4u, z4v, z4z, z50, z51, z53, z54, z5a, z5f, z5j, z5l, z5u, z5x, z62, z63, z6a, z6d, z6g, z6h, z6j, z6t, z6v, z6x, z70, z71, z7c, z7d, Nat.reduceAdd, Nat.reduceSub, ↓reduceIte, keepR, Hp.cell, Hp.row, hasBx24, tFieldAx66x0, tFieldAx66x1, tFieldAx66x2, tPartx22, tPartx47, vo1, vo2, vo3]
        refine al_kd2 (run24 (I := IS13) rfl rfl rfl (p := (· < h.size)) (R47.mono hp40 (fun _ h => h) id ((view_keeps (by repeat (first | assumption | exact Keeps.refl _ | refine Keeps.push ?_ _ | refine Keeps.set ?_ (by first | omega | (simp only [Hp.size_push, Hp.size_setB]; omega)) _)) (by simp)).fr (fun _ h => h))) (fun b hb => by rw [view_size]; simp only [Hp.size_push, Hp.size_setB]; omega) (by rw [view_ro, view_size]; exact Nat.le_refl _) (by omega)) ?_ (by decide) ?_
        · rintro v k' hk' ⟨ds, rfl, hd⟩
          exact vin_agg fun c hc => vin_mono (fun b hb => .inr (by have h := hb.1; rw [view_size] at h; exact ⟨h, hb.2⟩)) (R47.rvin hd c hc)
        rintro v k1 m1 hk1 ⟨ds, rfl, hd⟩ hm1 hm2 hm3 hm4
        have hs1 := hk1.size
        rw [view_size] at hs1
        have g0 := hm3 k.size (by first | omega | (simp only [Hp.size_push, Hp.size_setB, Hp.ro_push, Hp.ro_setB]; omega))
        simp (maxDischargeDepth := 16) only [z33, z4a, z4b, z4c, z4d] at g0 hm2 hs1
        have hf1 := Rp.fresh hd fun h => hm4 h _ (fun b hb => ⟨hb.2, .inr (by have h := hb.1; rw [view_size] at h; exact h)⟩)
        have hkm : Keeps h m1 := keeps_of (k := (k.push _).setB k.size _) (by repeat (first | assumption | exact Keeps.refl _ | refine Keeps.push ?_ _ | refine Keeps.set ?_ (by first | omega | (simp only [Hp.size_push, Hp.size_setB]; omega)) _)) (by rw [hm1]; exact hs1) hm3
        have c23 := call_rdk (P := Try.prog) (I := IS13) (f := 23) (spec := fun x => .int .u64 (f23 x.1 x.2.1 x.2.2.1)) rfl N (h := m1.view 127 (keepS 6 (k.size + 1) k1.size [])) (show AM.r (· < (m1.view 127 (keepS 6 (k.size + 1) k1.size [])).size) _ [_, _, _] (y1, y2, msgD y3, ()) from ⟨_, _, rfl, ⟨rfl, d1⟩, _, _, rfl, ⟨rfl, d2⟩, _, _, rfl, R47.mono hf1 (fun b hb => by rw [view_size]; exact hm1 ▸ hb.2) (by simp) (Fr.of fun b hb => by rw [view_keepS' (by decide), view_nil]), rfl⟩) (by omega) _ (Keeps.refl _)
        simp (maxDischargeDepth := 16) only [z0t, z0v, z0x, z0z, z16, z1e, z1l, z1v, z2w, z2x, z3b, z3h, z3x, z3y, z3z, z40, z41, z43, z44, z45, z46, z4a, z4b, z4e, z4f, z4g, z4h, z4i, z4j, z4k, z4l, z4m, z4n, z4o, z4p, z4q, z4r, z4s, z4u, z4v, z4z, z50, z51, z53, z54, z5a, z5f, z5j, z5l, z5u, z5x, z62, z63, z6a, z6d, z6g, z6h, z6j, z6t, z6v, z6x, z7c, z7d, z89, z8b, Nat.reduceAdd, Nat.reduceSub, ↓reduceIte, keepR, Hp.cell, Hp.row, hasBx23, hasBx24, tFieldAx66x0, tFieldAx66x1, tFieldAx66x2, tPartx22, tPartx47, vo1, vo2, vo3, c23, g0]
        have hkeep : ∀ x ∈ keepS 6 (k.size + 1) k1.size [], h.size ≤ x.2.1 := fun x hx => by
          rcases keepS_mem hx with rfl | h'
          · show h.size ≤ k.size + 1; omega
          · cases h'
        refine al_kd2 (run24 (I := IS13) rfl rfl rfl (p := (· < h.size)) (R47.mono hp40 (fun _ h => h) id ((keeps_view hkm hkeep).fr (fun _ h => h))) (fun b hb => by rw [view_size]; omega) (by rw [view_ro, view_size]; exact Nat.le_refl _) (by omega)) ?_ (by decide) ?_
        · rintro v k' hk' ⟨ds, rfl, hd⟩
          exact vin_agg fun c hc => vin_mono (fun b hb => .inr (by have h := hb.1; rw [view_size] at h; exact ⟨h, hb.2⟩)) (R47.rvin hd c hc)
        rintro v k2 m2 hk2 ⟨ds2, rfl, hd2⟩ hn1 hn2 hn3 hn4
        have hs2 := hk2.size
        rw [view_size] at hs2
        have hf2 := Rp.fresh hd2 fun h => hn4 h _ (fun b hb => ⟨hb.2, .inr (by have h := hb.1; rw [view_size] at h; exact h)⟩)
        have hkm2 : Keeps h m2 := keeps_of hkm (by omega) hn3
        have c25 := call_rdk (P := Try.prog) (I := IS13) (f := 25) (spec := fun x => .int .u64 (f23 x.1 x.2.1 x.2.2.1)) rfl N (h := m2.view 32767 (keepS 14 m1.size k2.size (keepS 6 (k.size + 1) k1.size []))) (show AM.r (· < (m2.view 32767 (keepS 14 m1.size k2.size (keepS 6 (k.size + 1) k1.size []))).size) _ [_, _, _] (y1, y2, msgD y3, ()) from ⟨_, _, rfl, ⟨rfl, d1⟩, _, _, rfl, ⟨rfl, d2⟩, _, _, rfl, R47.mono hf2 (fun b hb => by rw [view_size]; exact hn1 ▸ hb.2) (by simp) (Fr.of fun b hb => by rw [view_keepS' (by decide), view_keepS2 (by have h := hb.1; rw [view_size] at h; omega), view_nil]), rfl⟩) (by omega) _ (Keeps.refl _)
        simp (maxDischargeDepth := 16) only [z04, z08, z0a, z0c, z0d, z0e, z0h, z0k, z0p, z0q, z0s, z0t, z0v, z0w, z0x, z0z, z10, z13, z1l, z24, z2c, z3b, z3h, z46, z4e, z4f, z4g, z4h, z4i, z4j, z4k, z4l, z4s, z4u, z4v, z5a, z5c, z5j, z5n, z5t, z5u, z5w, z62, z63, z6j, z6t, z6x, Nat.reduceAdd, ↓reduceIte, keepR, hasBx25, c25, w3]
        exact ih (m - 1) _ _ q1 ⟨i + 1, q2, q3, hkm2, by rw [hn2, hm2]; exact hr, rfl, rfl, rfl, rfl, rfl⟩
    · have hlt' : ¬ (i : Int) < (xs.length : Int) := by omega
      simp (maxDischargeDepth := 16) only [z05, z06, z08, z09, z0a, z0c, z0d, z0e, z0g, z0j, z0m, z0o, z0p, z0q, z0s, z0t, z0v, z0w, z0z, z11, z13, z2d, z3b, z3c, z3f, z4e, z4f, z4g, z4h, z4i, z4z, z5b, ↓reduceIte, hlt']
      exact Al.done hk hr rfl
  · omega
  · exact ⟨0, by omega, by omega, Keeps.refl _, rfl, rfl, rfl, rfl, rfl, rfl⟩
end Go.Abs.B1
