/- Ships: owned entries; views of their own. -/
import Derived.Test.YtnlhfcipapbfmaaSh14
namespace Go.Abs.B1
open Go.Proofs
set_option maxRecDepth 10000
set_option maxHeartbeats 4000000
set_option linter.all false
theorem run58 {I : Intr} (hI : I 58 = none) (hI77 : I 77 = none) (hI89 : I 89 = none) {N : Nat} {k : Hp} {v : Value} {xs : T34} {p : Nat → Prop} (r : R34.r false p k [v] xs) (hp : ∀ b, p b → b < k.size) (hro : k.ro ≤ k.size) (hN : xs.length + 2 < N) (hl : xs.length ≤ 1000) (hl2 : ∀ x ∈ xs, x.2.2.2.length ≤ 1000) :
    Al k (fun k' w => R34.r true (fr k k') k' [w] xs) (evalV Try.prog I N (.fn 58) #[v] k) := by
  obtain ⟨N, rfl⟩ : ∃ n, N = n + 1 := ⟨N - 1, by omega⟩
  rw [evalV_call (P := Try.prog) (intr := I) (f := 58) (m := 25) (rs := #[.tmp 2]) hI Try.func58 rfl rfl rfl]
  simp (maxDischargeDepth := 16) only [z08, z09, z0d, z0e, z0p, z0q, z0s, z0t, z0v, z0w, z0x, z10, z11, z1l, z3b, z3h, z4e, z4f, z4g, z4h, z4i, z4j, z4k, z4l, z4p, z4q, z4r, z4s, z4t, z4u, z4v, z4w, z4x, z4y, z53, Nat.reduceSub, ↓reduceIte, hasBx77]
  refine al_kops (run77 hI77 (by omega) r hp hro hl) ?_
  rintro w k1 hk1 hr1 ⟨b?, ho, hb?⟩
  rcases ho with ⟨rfl, rfl, rfl⟩ | ⟨B, c, cells, rfl, rfl, hc, hcap, hBk, hpB, hgB, hrows⟩
  · obtain ⟨N, rfl⟩ : ∃ n, N = n + 1 := ⟨N - 1, by omega⟩
    simp (maxDischargeDepth := 16) only [z08, z09, z0d, z0e, z0p, z0q, z0s, z0t, z0v, z0w, z0z, z10, z11, z1p, z1r, z3b, z4e, z4f, z4g, z4h, z4i, z7o, evalC_block, tLenx34]
    rw [evalC_loop, evalLoop_succ]
    simp (maxDischargeDepth := 16) only [z05, z06, z08, z09, z0a, z0c, z0d, z0e, z0g, z0j, z0m, z0o, z0p, z0q, z0s, z0t, z0v, z0z, z10, z11, z13, z2d, z3b, z3c, z3f, z4e, z4f, z4g, z4h, z4i, z4z, z5b, ↓reduceIte, Nat.reduceLT, Int.reduceLT]
    refine Al.done hk1 hr1 ?_
    exact OwnS.nil.rp (fun _ h => h) (fun b h => by cases h)
  have hBlo := hb? B rfl
  simp (maxDischargeDepth := 16) only [z08, z09, z0d, z0e, z0p, z0q, z0s, z0t, z0v, z0w, z0z, z10, z11, z1p, z1r, z3b, z4e, z4f, z4g, z4h, z4i, evalC_block, tLenx34]
  refine loop_rule (Al k _) (fun m x k' => ∃ (i : Nat) (A D : List Value) (cells : Array Value), m = xs.length - i ∧ i ≤ xs.length ∧ Keeps k k' ∧ k'.ro = k.ro ∧ k1.size ≤ k'.size ∧ k'.get B = some (.cells cells true) ∧ cells.toList = A ++ D ∧
      rows R85 true (fun c => k.size ≤ c ∧ c < k'.size ∧ c ≠ B) k' A (xs.take i) ∧ rows R85 false p k' D (xs.drop i) ∧
    x.tmps.size = 25 ∧ x.defers = [] ∧ x.tmps.getD 0 undef = .slice (some ⟨B, 0, none⟩) xs.length c ∧ x.tmps.getD 6 undef = .slice (some ⟨B, 0, none⟩) xs.length c ∧ x.tmps.getD 7 undef = .int .i64 (xs.length : Int) ∧ x.tmps.getD 8 undef = .int .i64 (i : Int)) ?_ _ xs.length _ _ ?_ ?_
  · intro m n' x k' hI' ih
    obtain ⟨i, A, D, cells', hm, hi, hk, hr, hsz, hg, hcl, hA, hD, hxs, hxd, l0, l6, l7, l8⟩ := hI'
    obtain ⟨g, rfl⟩ : ∃ g : Nat → Value, x = { tmps := #[.slice (some ⟨B, 0, none⟩) xs.length c, g 1, g 2, g 3, g 4, g 5, .slice (some ⟨B, 0, none⟩) xs.length c, .int .i64 (xs.length : Int), .int .i64 (i : Int), g 9, g 10, g 11, g 12, g 13, g 14, g 15, g 16, g 17, g 18, g 19, g 20, g 21, g 22, g 23, g 24], defers := [] } := ⟨fun k => x.tmps.getD k undef, (act_eta hxs hxd).trans (by simp only [unrollL, Nat.reduceAdd, Nat.zero_add, l0, l6, l7, l8])⟩; clear hxs hxd l0 l6 l7 l8
    by_cases hlt : i < xs.length
    · have hlt' : (i : Int) < (xs.length : Int) := by omega
      obtain ⟨q1, q2, q3⟩ : m - 1 < m ∧ m - 1 = xs.length - (i + 1) ∧ i + 1 ≤ xs.length := by clear ih; omega
      rw [List.drop_eq_getElem_cons hlt] at hD
      obtain ⟨part, D', rfl, hp', hD'⟩ := hD
      have hy1000 := hl2 xs[i] (List.getElem_mem hlt)
      obtain ⟨y, hy⟩ : ∃ y, y = xs[i] := ⟨_, rfl⟩
      rw [← hy] at hp' hy1000
      have hyi : xs[i]? = some y := by rw [hy]; exact List.getElem?_eq_getElem hlt
      obtain ⟨y1, y2, y3, y4⟩ := y
      obtain ⟨u, rfl, d1, d2, d3, hu⟩ := R85_inv hp'
      dsimp only at hu d1 d2 d3 hy1000
      have hAl : A.length = i * 4 := by have := hA.len; rw [this, List.length_take, Nat.min_eq_left hi]; rfl
      have hs := hk.size
      have hcs : cells'.size = i * 4 + (4 + D'.length) := by have := congrArg List.length hcl; simp at this; omega
      have hu3 : cells'[i * 4 + 3]? = some u := by
        rw [← Array.getElem?_toList, hcl, List.getElem?_append_right (by omega), hAl]
        simp
      have hnn : (0 ≤ (i : Int)) = True := by simp
      have w3 : IntKind.i64.wrap ((i : Int) + 1) = ((i + 1 : Nat) : Int) := by rw [i64_in] <;> omega
      have rB : (k'.ro ≤ B) = True := by rw [hr]; simp; omega
      have hle : (i * 4 + 4 ≤ cells'.size) = True := by simp; omega
      simp (maxDischargeDepth := 16) only [z04, z08, z09, z0a, z0b, z0d, z0e, z0p, z0q, z0s, z0t, z0v, z0x, z0z, z10, z11, z13, z16, z18, z1e, z1l, z1v, z1z, z2d, z2u, z2w, z2x, z3b, z3h, z4e, z4f, z4g, z4h, z4i, z4j, z4k, z4l, z4s, z4u, z4v, z50, z51, z53, z54, z5a, evalC_block, ↓reduceIte, Hp.cell, hasBx89, tElemx34, tFieldAx45x0, tFieldAx85x3, tPartx43, hlt', hnn, hg, Int.toNat_natCast, hu3]
      refine al_kops (run89 hI89 (by omega) (R43.mono hu (fun _ h => h) id (Fr.refl _)) (fun b hb => by have := hp b hb; omega) (by omega) hy1000) ?_
      rintro u2 k2 hk2 hr2 ⟨b2, ho2, hb2⟩
      have hgB2 : k2.get B = some (.cells cells' true) := by rw [hk2.get B (by omega)]; exact hg
      have rB2 : (k2.ro ≤ B) = True := by rw [hr2, hr]; simp; omega
      have hrep := (ho2.flat (p' := fun _ => False) (o' := true) (by simp)).rp (q := fun c => k'.size ≤ c ∧ c < k2.size) (fun _ h => h.elim) (fun b h => ⟨hb2 b h, by subst h; exact ho2.lt⟩)
      obtain ⟨oz, cz, rfl, -⟩ := slice_form hrep
      have hs2 := hk2.size
      simp (maxDischargeDepth := 16) only [z08, z0d, z0e, z0h, z0k, z0p, z0q, z0s, z0t, z0u, z0v, z0w, z0z, z10, z13, z16, z18, z1f, z1w, z1x, z1z, z24, z2q, z2u, z2w, z2y, z3a, z3b, z3s, z3v, z3w, z44, z45, z49, z4e, z4f, z4g, z4h, z4i, z4p, z4q, z4r, z50, z51, z53, z54, z5f, z72, Nat.reduceAdd, ↓reduceIte, Hp.wr, tElemx34, tFieldAx45x0, tFieldAx85x3, tSizex43, hlt', hnn, hgB2, Int.toNat_natCast, rB2, hle, w3]
      have hset : (cells'.setIfInBounds (i * 4 + 3) (.slice oz y4.length cz)).toList = (A ++ [.int .u64 y1, .int .i64 y2, .int .u32 y3, .slice oz y4.length cz]) ++ D' := by
        rw [Array.toList_setIfInBounds, hcl, List.set_append_right _ _ (by omega), hAl]
        simp
      refine ih (m - 1) _ _ q1 ⟨i + 1, A ++ [.int .u64 y1, .int .i64 y2, .int .u32 y3, .slice oz y4.length cz], D', _, q2, q3, ?_, by simp only [Hp.ro_setB]; rw [hr2, hr], by simp only [Hp.size_setB]; omega, get_set_self, hset, ?_, ?_, rfl, rfl, rfl, rfl, rfl, rfl⟩
      · exact (hk.trans hk2).set hBlo _
      · rw [List.take_add_one, hyi]
        refine rows.append (hA.mono (fun c hc => ⟨hc.1, by simp only [Hp.size_setB]; omega, hc.2.2⟩) id (Fr.of fun c hc => by rw [get_set_ne hc.2.2, hk2.get c hc.2.1])) (rows.one_row (R85_mk (x := (y1, y2, y3, y4)) d1 d2 d3 ((Rp.slice R139).mono hrep (fun c hc => ⟨by omega, by simp only [Hp.size_setB]; omega, by omega⟩) id (Fr.of fun c hc => get_set_ne (by omega)))))
      · exact hD'.mono (fun _ h => h) id (Fr.of fun c hc => by have := hp c hc; rw [get_set_ne (by omega), hk2.get c (by omega)])
    · have hlt' : ¬ (i : Int) < (xs.length : Int) := by omega
      have : i = xs.length := by omega
      subst this
      simp (maxDischargeDepth := 16) only [z05, z06, z08, z09, z0a, z0c, z0d, z0e, z0g, z0j, z0m, z0o, z0p, z0q, z0s, z0t, z0v, z0z, z10, z11, z13, z2d, z3b, z3c, z3f, z4e, z4f, z4g, z4h, z4i, z4z, z5b, ↓reduceIte, hlt']
      refine Al.done hk hr ?_
      rw [List.drop_length] at hD
      have hD0 : D = [] := hD
      subst hD0
      rw [List.take_length] at hA
      have hAl := hA.len
      refine ⟨_, _, rfl, ⟨by rcases hc with rfl | rfl <;> omega, by rcases hc with rfl | rfl; exact .inl hcap; exact .inr rfl⟩, hcap, .inr ⟨B, 0, cells', true, rfl, ⟨hBlo, by omega⟩, hg, fun _ => rfl, ?_, ?_, ?_⟩⟩
      · intro c hc
        exact vin_mono (fun b hb => ⟨hb.1, hb.2.1⟩) (hA.vin c (by rw [List.append_nil] at hcl; rw [← hcl]; simpa using hc))
      · have := congrArg List.length hcl; simp at this; rw [this, hAl]; simp
      · rw [List.drop_zero, hcl, List.append_nil, ← hAl, List.take_length]
        exact hA.mono (fun b hb => ⟨hb.1, hb.2.1⟩) id (Fr.refl _)
  · omega
  · exact ⟨0, [], cells.toList, cells, by omega, by omega, hk1, hr1, by omega, hgB, by simp, rfl, by simpa using hrows, rfl, rfl, rfl, rfl, rfl, rfl⟩
def viewD (x : T36) : T36 := (x.1, baseD x.2.1, (x.2.2.take 41).map cutE)
theorem run13 {I : Intr} (hI : I 13 = none) (hI53 : I 53 = none) (hI54 : I 54 = none) {N : Nat} {k : Hp} {cs : List Value} {x : T36} {p : Nat → Prop} (r : R36.r false p k cs x) (hp : ∀ b, p b → b < k.size) (hro : k.ro ≤ k.size) (hN : x.2.2.length + 2 < N) :
    Al k (fun k' v => ∃ ds, v = .agg ds.toArray ∧ R36.r true (fr k k') k' ds (viewD x)) (evalV Try.prog I N (.fn 13) #[.agg cs.toArray] k) := by
  obtain ⟨N, rfl⟩ : ∃ n, N = n + 1 := ⟨N - 1, by omega⟩
  obtain ⟨v1, v2, rfl, b1, b2, b3, hv1, b4, b5, b6, b7, b8, b9, hv2⟩ := R36_inv r
  have i1 : vin (· < k.size) v1 := vin_mono hp (R25.rvin hv1 v1 (by simp))
  have i2 : vin (· < k.size) v2 := vin_mono hp (R34.rvin hv2 v2 (by simp))
  have o1 : oneC v1 = true := R25.rone hv1 v1 (by simp)
  have o2 : oneC v2 = true := R34.rone hv2 v2 (by simp)
  have vo1 := fun kept bits => vb_old (s0 := k.size + 2) (kept := kept) (bits := bits) (vin_mono (fun b hb => by omega) i1)
  have vo2 := fun kept bits => vb_old (s0 := k.size + 2) (kept := kept) (bits := bits) (vin_mono (fun b hb => by omega) i2)
  rw [evalV_call (P := Try.prog) (intr := I) (f := 13) (m := 12) (rs := #[.cell 2 36]) hI Try.func13 rfl rfl rfl]
  simp (maxDischargeDepth := 16) only [z08, z09, z0d, z0e, z0p, z0q, z0s, z0t, z0v, z1g, z1h, z2o, z2z, z3b, z4a, z4e, z4g, z4h, z4i, z4p, z4q, z4r, z4s, z4t, z4u, z4w, z4x, z4y, z4z, z53, z7t, Nat.reduceSub, tZerox36]
  rw [evalDraw_modes _ _ [(0, 0, 1), (2, 1, 3), (0, 0, 4), (2, 4, 12), (2, 12, 28), (0, 0, 32), (2, 32, 96), (2, 124, 252), (0, 255, 511), (4, 511, 1023)] (by kernel_rfl)]
  simp (maxDischargeDepth := 16) only [z0t, z0v, z0x, z0z, z16, z1e, z1l, z1v, z2w, z2x, z34, z38, z39, z3a, z3b, z3h, z3x, z3y, z3z, z40, z41, z42, z44, z45, z46, z4a, z4e, z4f, z4g, z4h, z4i, z4j, z4k, z4l, z4m, z4n, z4p, z4q, z4r, z4s, z4u, z4v, z4z, z50, z51, z53, z54, z5a, z5f, z5j, z5l, z5u, z5x, z62, z6a, z6d, z6g, z6h, z6j, z6t, z6v, z6x, z70, z71, z7c, z7d, Nat.reduceLeDiff, Nat.reduceAdd, Nat.reduceSub, ↓reduceIte, keepR, Hp.cell, Hp.row, hasBx53, tFieldAx36x0, tFieldAx36x1, tPartx22, tPartx33, vo1]
  refine al_kd2 (run53 hI53 (by omega) (p := p) (R33.mono (R33_mk (x := x.2.1) b2 b3 hv1 b4 b5 b6 b7 b8 b9) (fun _ h => h) id ((view_keeps (by repeat (first | assumption | exact Keeps.refl _ | refine Keeps.push ?_ _ | refine Keeps.set ?_ (by first | omega | (simp only [Hp.size_push, Hp.size_setB]; omega)) _)) (by simp)).fr hp)) (fun b hb => by have := hp b hb; rw [view_size]; simp only [Hp.size_push]; omega) (by rw [view_ro, view_size]; exact Nat.le_refl _)) ?_ (by decide) ?_
  · rintro v k' hk ⟨ds, rfl, hd⟩
    exact vin_agg fun c hc => vin_mono (fun b hb => .inr (by have h := hb.1; rw [view_size] at h; exact ⟨h, hb.2⟩)) (R33.rvin hd c hc)
  rintro v k1 m1 hk1 ⟨ds, rfl, hd⟩ hm1 hm2 hm3 hm4
  obtain ⟨w1, rfl, d1, d2, hw1, d3⟩ := R33_inv hd
  obtain ⟨o9, c9, rfl⟩ : ∃ o n, w1 = .slice o (baseD x.2.1).2.1.length n := by obtain ⟨_, _, e, _⟩ := slice_form hw1; exact ⟨_, _, e⟩
  have hs1 := hk1.size
  rw [view_size] at hs1
  simp (maxDischargeDepth := 16) only [z3a, z4a, z4c, Nat.reduceAdd] at hm2 hs1
  have gm0 := hm3 k.size (by first | omega | (simp only [Hp.size_push, Hp.size_setB, Hp.ro_push, Hp.ro_setB]; omega))
  have gm1 := hm3 (k.size + 1) (by first | omega | (simp only [Hp.size_push, Hp.size_setB, Hp.ro_push, Hp.ro_setB]; omega))
  simp (maxDischargeDepth := 16) only [z34, z38, z39, z4a, ↓reduceIte] at gm0 gm1
  have hkm : Keeps k m1 := keeps_of (k := (k.push _).push _) (by repeat (first | assumption | exact Keeps.refl _ | refine Keeps.push ?_ _ | refine Keeps.set ?_ (by first | omega | (simp only [Hp.size_push, Hp.size_setB]; omega)) _)) (by simp only [Hp.size_push]; omega) hm3
  have f1 := R33.mono (Rp.fresh hd fun h => hm4 h _ (fun b hb => ⟨hb.2, .inr (by have h := hb.1; rw [view_size] at h; exact h)⟩)) (p' := fun b => k.size + 2 ≤ b ∧ b < k1.size) (fun b hb => ⟨by have h := hb.1; rw [view_size] at h; simpa using h, hb.2⟩) id (Fr.refl _)
  have al4 : ∀ kept bits, decide (bits / 2 ^ 4 % 2 = 1) = true → vokB (allow (k.size + 2) (keepS 4 (k.size + 2) k1.size kept) bits) (.slice o9 (baseD x.2.1).2.1.length c9) = true := fun kept bits hb => vin_p (R25.rvin hw1 _ (by simp)) fun b hb' => allow_own (by have h := hb'.1; rw [view_size] at h; simpa using h) hb'.2 (by rw [tb]; exact hb)
  simp (maxDischargeDepth := 16) only [z0t, z0v, z0w, z0x, z0z, z16, z1e, z1l, z1v, z2w, z2x, z3a, z3b, z3h, z46, z4a, z4e, z4f, z4g, z4h, z4i, z4j, z4k, z4l, z4m, z4n, z4o, z4s, z4u, z4v, z50, z51, z53, z5a, z5j, z5l, z5u, z5x, z6a, z6h, z6t, z6v, z6x, z7c, z7d, z89, z8b, Nat.reduceAdd, ↓reduceIte, keepR, Hp.cell, hasBx54, tFieldAx36x2, tPartx34, vo2, gm0]
  refine al_kd2 (run54 hI54 (v := v2) (p := p) (R34.mono hv2 (fun _ h => h) id ((keeps_view hkm (fun x hx => by
      rcases keepS_mem hx with rfl | h'
      · show k.size ≤ k.size + 2; omega
      · cases h')).fr hp)) (fun b hb => by have := hp b hb; have := hkm.size; rw [view_size]; omega) (by rw [view_ro, view_size]; exact Nat.le_refl _) (by omega) 41 (by decide)) ?_ (by decide) ?_
  · intro v k' hk ha
    exact vin_mono (fun b hb => .inr (by rw [view_size] at hb; exact hb)) ((Rp.slice R85).rvin ha.rp v (by simp))
  rintro v k2 m2 hk2 ha hn1 hn2 hn3 hn4
  obtain ⟨o, c, rfl⟩ := ha.form
  have ha' := ha.rp
  rw [view_size] at ha'
  have hs2 := hk2.size
  rw [view_size] at hs2
  have gn1 : m2.get (k.size + 1) = _ := (hn3 (k.size + 1) (by omega)).trans gm1
  have f2 := Rp.fresh1 ha' fun h => hn4 h _ (fun b hb => ⟨hb.2, .inr (by simpa using hb.1)⟩)
  have f1' := R33.mono f1 (fun _ h => h) id (Fr.of fun b hb => hn3 b (by omega))
  have hkm2 : Keeps k m2 := keeps_of hkm (by omega) hn3
  have p1 : ∀ j, (m2.ro ≤ k.size + j) = True := fun j => by simp; omega
  have q1 : (m2.size ≤ k.size + 1) = False := by simp; omega
  have al7 : ∀ kept bits, decide (bits / 2 ^ 7 % 2 = 1) = true → vokB (allow (k.size + 2) (keepS 7 m1.size k2.size kept) bits) (.slice o ((x.2.2.take 41).map cutE).length c) = true := fun kept bits hb => vin_p ((Rp.slice R85).rvin ha' _ (by simp)) fun b hb' => allow_own hb'.1 hb'.2 (by rw [tb]; exact hb)
  have al4' : ∀ bits, decide (bits / 2 ^ 4 % 2 = 1) = true → vokB (allow (k.size + 2) (keepS 7 m1.size k2.size (keepS 4 (k.size + 2) k1.size [])) bits) (.slice o9 (baseD x.2.1).2.1.length c9) = true := fun bits hb => vin_p (R25.rvin hw1 _ (by simp)) fun b hb' => allow_keep (allow_own (by have h := hb'.1; rw [view_size] at h; simpa using h) hb'.2 (by rw [tb]; exact hb))
  have p4 : k.size + 1 < m1.size := by omega
  simp (maxDischargeDepth := 16) only [z05, z0d, z0e, z0o, z0t, z0u, z0v, z0z, z1b, z1f, z1w, z1x, z2m, z2o, z2q, z2x, z2y, z33, z3b, z3c, z3g, z3p, z3s, z3v, z3w, z3x, z3y, z3z, z41, z43, z44, z45, z46, z49, z4b, z4e, z4f, z4g, z4h, z4i, z4j, z4k, z4l, z4p, z4q, z4r, z4z, z50, z51, z53, z5a, z5f, z5j, z5k, z5t, z5u, z62, z66, z6d, z6g, z72, z80, z81, z82, z83, z8d, Nat.reduceLeDiff, Nat.reduceAdd, Nat.reduceSub, ↓reduceIte, Nat.reduceDiv, Nat.reduceMod, Nat.reducePow, keepR, Hp.row, Hp.wr, tBuildFx36x0, tBuildFx36x1, tBuildFx36x2, tBuildOkx36, tPartx36, tSizex36, tZerox36, gn1, al7, al4', p1]
  obtain ⟨w1', e, -, -, hw1', -⟩ := R33_inv f1'
  simp only [List.cons.injEq, true_and, and_true] at e
  subst e
  refine Al.done (by repeat (first | assumption | exact Keeps.refl _ | refine Keeps.push ?_ _ | refine Keeps.set ?_ (by first | omega | (simp only [Hp.size_push, Hp.size_setB]; omega)) _)) (by simp only [Hp.ro_setB]; rw [hn2, hm2]) ⟨_, rfl, R36_mk (x := viewD x) b1 b2 b3 ((Rp.slice R61).mono hw1' (fun b hb => ⟨by omega, by simp only [Hp.size_setB]; omega⟩) id (Fr.of fun b hb => by
    have := hb.1
    simp only [Hp.get_setB, if_neg (show ¬ b = k.size + 1 by omega)])) b4 b5 b6 b7 b8 b9 ((Rp.slice R85).mono f2 (fun b hb => ⟨by omega, by simp only [Hp.size_setB]; omega⟩) id (Fr.of fun b hb => by
    have := hb.1
    simp only [Hp.get_setB, if_neg (show ¬ b = k.size + 1 by omega)]))⟩
end Go.Abs.B1
