/- Ships: levels: a list cut to a view. -/
import Derived.Test.YtnlhfcipapbfmaaSl1
namespace Go.Abs.B1
open Go.Proofs
set_option maxRecDepth 10000
set_option maxHeartbeats 4000000
set_option linter.all false
def epo (l : T34) (i : Nat) : Int := match l[i]? with
  | some e => e.1
  | none => 0
def cutV' (E : Int) (l : T34) (n : Nat) : T36 :=
  if n = 0 then (E + 2, ((0, 0), [], ((0, 0), (0, 0), (0, 0))), l)
  else (E + 2, (((n : Int), epo l (n - 1)), [], ((0, 0), ((n : Int), (n : Int)), (0, 0))), l.drop n)
theorem cut_al {P : Program} {α : Type} {e : Rp α} {o : Bool} {p : Nat → Prop} {h : Hp} {v : Value} {xs : List α} {t : TypeId} {l hh : Nat} {lov hiv : Option Value} (r : (Rp.slice e).r o p h [v] xs) (ht : tElem P t = some e.len) (he : 0 < e.len) (hl : bndOk lov 0 l) (hhi : bndOk hiv xs.length hh) (h1 : l ≤ hh) (h2 : hh ≤ xs.length) :
    Al h (fun h' v' => (Rp.slice e).r o (fun b => p b ∨ h.size ≤ b ∧ b < h'.size) h' [v'] ((xs.take hh).drop l)) (aSlice P t v lov hiv none h) := by
  obtain ⟨v', h', e1, e2, e3, e4, e5⟩ := cut_any r ht he hl hhi h1 h2
  exact ⟨v', h', e1, e2, e3, e5⟩
theorem vfree {p : Nat → Prop} {s0 : Nat} {kept : List (Nat × Nat × Nat)} {bits : Nat} {v : Value} (h : vin p v) (hp : ∀ b, p b → allow s0 kept bits b = true) : vokB (allow s0 kept bits) v = true := vin_p h hp
theorem run78 {I : Intr} (hI : I 78 = none) {N : Nat} {k : Hp} {v : Value} {l : T34} {p : Nat → Prop} (r : R34.r false p k [v] l) (hp : ∀ b, p b → b < k.size) (hro : k.ro ≤ k.size) {bc be c n : Nat} {E : Int} (hc : k.get bc = some (.cells #[.int .i64 (c : Int)] true)) (he : k.get be = some (.cells #[.int .u64 E] true))
    (hbc : bc < k.size) (hbe : be < k.size) (hcl : c ≤ l.length) (hl : c ≤ 1000) (hn : n ≤ 1000) (hE : 0 ≤ E ∧ E ≤ 1000) (hN : 0 < N) :
    Al k (fun k' w => ∃ ds, w = .agg ds.toArray ∧ R36.r false (fun b => p b ∨ k.size ≤ b ∧ b < k'.size) k' ds (cutV' E l (min n c))) (evalV Try.prog I N (.fn 78) #[v, .int .i64 (n : Int), .pointer (some ⟨bc, 0, none⟩), .pointer (some ⟨be, 0, none⟩)] k) := by
  obtain ⟨N, rfl⟩ : ∃ n, N = n + 1 := ⟨N - 1, by omega⟩
  obtain ⟨a, cc, rfl, -, hl0⟩ := slice_form r
  have p0 : (k.ro ≤ k.size) = True := eq_true hro
  have hm : min (n : Int) (c : Int) = ((min n c : Nat) : Int) := by omega
  obtain ⟨m, hmm⟩ : ∃ m, m = min n c := ⟨_, rfl⟩
  rw [← hmm] at hm ⊢
  have hmc : m ≤ c := by omega
  have wE : IntKind.u64.wrap (E + 2) = E + 2 := u64_in (by omega) (by omega)
  rw [evalV_call (P := Try.prog) (intr := I) (f := 78) (m := 39) (rs := #[.cell 6 36]) hI Try.func78 rfl rfl rfl]
  simp (maxDischargeDepth := 16) only [z08, z09, z0d, z0e, z0p, z0q, z0s, z0t, z0v, z0z, z10, z11, z1e, z1g, z1u, z1v, z2l, z2x, z2z, z34, z3b, z4e, z4f, z4g, z4h, z4i, z4j, z4k, z4l, z4m, z4n, z4p, z4q, z4r, z4s, z4t, z4u, z4w, z4x, z4y, z4z, z53, z7t, Nat.reduceAdd, Nat.reduceSub, ↓reduceIte, Hp.cell, tPartx3, tZerox36, hc, ne_f hbc, ne_f0 hbc, lt_t hbc, lt_t0 hbc, ne_f hbe, ne_f0 hbe, lt_t hbe, lt_t0 hbe, hm]
  rw [evalDraw_modes _ _ [(2, 0, 1), (0, 1, 3), (0, 0, 4), (0, 0, 8), (2, 12, 28), (0, 31, 63), (2, 0, 64), (4, 127, 255)] (by kernel_rfl)]
  simp (maxDischargeDepth := 16) only [z0t, z0v, z0w, z0z, z10, z13, z1e, z1k, z1v, z24, z2x, z34, z3b, z46, z4a, z4e, z4f, z4g, z4h, z4i, z4m, z4n, z4z, z53, z5j, z5l, z5u, z5x, z62, z6j, z6t, z6v, z6x, z70, z71, z87, Nat.reduceAdd, ↓reduceIte, keepR, Hp.cell, tPartx22, he, ne_f hbc, ne_f0 hbc, lt_t hbc, lt_t0 hbc, ne_f hbe, ne_f0 hbe, lt_t hbe, lt_t0 hbe, wE]
  have vo := fun kept bits => vb_old (s0 := k.size + 1) (kept := kept) (bits := bits) (vin_mono (fun b hb => by have := hp b hb; omega) (R34.rvin r _ (List.mem_singleton.2 rfl)))
  simp (maxDischargeDepth := 16) only [↓reduceIte, vo]
  refine al_kd2 (cut_al (e := R85) (o := false) (p := p) (l := m) (hh := l.length) (R34.mono r (fun _ h => h) id (Fr.of fun b hb => by rw [view_nil, get_push_ne (by have := hp b hb; omega)])) tElemx34 (by decide) ⟨_, rfl⟩ rfl (by omega) (Nat.le_refl _)) ?_ (by decide) ?_
  · intro v k' hk' hv
    refine vin_mono (fun b hb => ?_) (R34.rvin hv v (by simp))
    rcases hb with hb | hb
    · have := hp b hb; left; omega
    · right; rw [view_size] at hb; exact hb
  rintro v1 k1 m1 hk1 hv1 hn1 hn2 hn3 hn4
  rw [List.take_length] at hv1
  obtain ⟨o1, c1, rfl, -, -⟩ := slice_form hv1
  have hs1 := hk1.size
  rw [view_size] at hs1
  simp only [Hp.size_push] at hs1
  have hkm : Keeps k m1 := keeps_of (k := k.push _) (by repeat (first | assumption | exact Keeps.refl _ | refine Keeps.push ?_ _ | refine Keeps.set ?_ (by first | omega | (simp only [Hp.size_push, Hp.size_setB]; omega)) _)) (by simp only [Hp.size_push]; omega) hn3
  have f1 : R34.r false (fun b => p b ∨ k.size + 1 ≤ b ∧ b < m1.size) m1 [_] (l.drop m) := Rp.fresh1 ((Rp.slice R85).mono hv1 (p' := fun b => p b ∨ k.size + 1 ≤ b ∧ b < m1.size) (fun b hb => by
    rcases hb with hb | hb
    · exact .inl hb
    · rw [view_size] at hb; simp only [Hp.size_push] at hb; right; omega) id (Fr.refl _)) fun h => hn4 h _ (fun b hb => by
    simp only [Hp.size_push]
    rcases hb with hb | hb
    · have := hp b hb; exact ⟨by omega, by omega⟩
    · exact ⟨by omega, by omega⟩)
  have g0 : m1.get k.size = _ := hn3 k.size (by simp)
  simp (maxDischargeDepth := 16) only [z34, z4c, ↓reduceIte] at g0 hn2
  have p1 : (m1.ro ≤ m1.size) = True := eq_true (by rw [hn2]; omega)
  have p2 : (m1.ro ≤ k.size) = True := eq_true (by rw [hn2]; omega)
  have al4 : ∀ bits, decide (bits / 2 ^ 4 % 2 = 1) = true → vokB (allow (k.size + 1) (keepS 4 (k.size + 1) k1.size []) bits) (.slice o1 (l.drop m).length c1) = true := fun bits hb => vin_p (R34.rvin f1 _ (List.mem_singleton.2 rfl)) fun b hb' => by
    rcases hb' with h | h
    · have := hp b h; exact allow_old (by omega)
    · exact allow_own h.1 (by omega) (by rw [tb]; exact hb)
  simp (maxDischargeDepth := 16) only [z08, z09, z0a, z0d, z0e, z0p, z0q, z0s, z0t, z0u, z0v, z0w, z0z, z10, z13, z1b, z1f, z1g, z1w, z1x, z2f, z2m, z2o, z2q, z2y, z2z, z34, z38, z39, z3b, z3p, z3s, z3v, z3w, z44, z45, z46, z49, z4a, z4b, z4c, z4e, z4f, z4g, z4h, z4i, z4j, z4k, z4l, z4p, z4q, z4r, z4z, z50, z51, z53, z5a, z5f, z5j, z5k, z5l, z5t, z5u, z5x, z62, z66, z67, z6a, z6d, z6g, z6i, z6o, z6t, z6y, z6z, z72, z74, z76, z7b, z7c, z7d, z80, z81, z82, z83, z8d, Nat.reduceLeDiff, Nat.reduceAdd, ↓reduceIte, Nat.reduceDiv, Nat.reduceMod, Nat.reducePow, keepR, Hp.wr, tBuildFx36x0, tBuildFx36x2, tBuildOkx36, tSizex36, tZerox36, p1, al4]
  have n1 : k.size < m1.size := by omega
  have bE : IntKind.u64.min ≤ E + 2 ∧ E + 2 ≤ IntKind.u64.max := by constructor <;> simp [IntKind.min, IntKind.max, IntKind.bits, IntKind.signed] <;> omega
  by_cases hm0 : m = 0
  · subst hm0
    have q0 : ((0 : Int) < ((0 : Nat) : Int)) = False := by simp
    have hcut : cutV' E l 0 = (E + 2, ((0, 0), [], ((0, 0), (0, 0), (0, 0))), l) := by unfold cutV'; rw [if_pos rfl]
    rw [List.drop_zero] at f1
    simp (maxDischargeDepth := 16) only [z04, z05, z08, z09, z0c, z0d, z0e, z0o, z0p, z0q, z0s, z0t, z0u, z0v, z0z, z1e, z1f, z1v, z1w, z1x, z2o, z2x, z2y, z33, z34, z35, z3b, z3c, z3g, z3p, z3s, z3v, z3w, z3x, z3y, z3z, z41, z43, z44, z45, z46, z49, z4c, z4d, z4e, z4f, z4g, z4h, z4i, z4p, z4q, z4r, z4z, z53, z5b, z5f, z72, z7o, Nat.reduceAdd, Nat.reduceSub, ↓reduceIte, Nat.reduceLT, Int.reduceLT, Hp.row, Hp.wr, tPartx36, tSizex36, g0, p2, n1, ne_f n1, ne_f0 n1, lt_t n1, lt_t0 n1]
    rw [hcut]
    refine Al.done ⟨by simp only [Hp.size_setB, Hp.size_push]; omega, fun b hb => ?_⟩ (by simp only [Hp.ro_setB, Hp.ro_push]; exact hn2) ⟨_, rfl, R36_mk (x := (E + 2, ((0, 0), [], ((0, 0), (0, 0), (0, 0))), l)) bE u0 u0 nilR w0 u0 w0 u0 w0 u0 (R34.mono f1 (fun b hb => ?_) id (Fr.of fun b hb => ?_))⟩
    · rw [get_set_ne (by omega), get_set_ne (by omega), get_push_ne (by omega)]; exact hkm.get b hb
    · rcases hb with hb | hb
      · exact .inl hb
      · right; simp only [Hp.size_setB, Hp.size_push]; omega
    · have hb' : b < m1.size ∧ b ≠ k.size := by
        rcases hb with hb | hb
        · have := hp b hb; omega
        · omega
      rw [get_set_ne hb'.2, get_set_ne (by omega), get_push_ne (by omega)]
  · have q0 : ((0 : Int) < (m : Int)) = True := eq_true (by omega)
    obtain ⟨e, hee⟩ : ∃ e, l[m - 1]? = some e := ⟨_, List.getElem?_eq_getElem (by omega)⟩
    obtain ⟨b, off, _, cells, ow, part, ee, hb0, hg, -, hpp, hle, hex, hcell⟩ := elem_at (s := 4) r hee rfl (by decide)
    cases ee
    obtain ⟨u, rfl, d1, -, -, -⟩ := R85_inv hpp
    have hbk := hp b hb0
    have h1 := hcell 0 (by decide)
    simp only [Nat.add_zero, List.getElem?_cons_zero] at h1
    have hg1 : m1.get b = _ := (hkm.get b hbk).trans hg
    have nb : b < m1.size := by omega
    have w1 : IntKind.u64.wrap (m : Int) = (m : Int) := u64_in (by omega) (by omega)
    have w2 : IntKind.i64.wrap ((m : Int) - 1) = ((m - 1 : Nat) : Int) := by rw [i64_in] <;> omega
    have w3 : IntKind.u32.wrap (m : Int) = (m : Int) := u32_in (by omega) (by omega)
    have hnn : (0 ≤ ((m - 1 : Nat) : Int)) = True := eq_true (by omega)
    have hlt' : ((m - 1 : Nat) : Int) < (l.length : Int) := by omega
    have hep : epo l (m - 1) = e.1 := by unfold epo; rw [hee]
    simp (maxDischargeDepth := 16) only [z05, z08, z09, z0b, z0d, z0e, z0o, z0p, z0q, z0s, z0t, z0u, z0v, z0w, z0z, z10, z13, z15, z16, z18, z1b, z1e, z1f, z1v, z1w, z1x, z1z, z25, z2m, z2o, z2u, z2v, z2w, z2x, z2y, z33, z34, z35, z3b, z3c, z3g, z3p, z3s, z3v, z3w, z3x, z3y, z3z, z41, z43, z44, z45, z46, z49, z4c, z4d, z4e, z4f, z4g, z4h, z4i, z4j, z4k, z4l, z4p, z4q, z4r, z4z, z50, z51, z53, z54, z5a, z5f, z72, z7r, z7z, z80, z81, z82, z83, Nat.reduceLeDiff, Nat.reduceAdd, Nat.reduceSub, Nat.reduceMul, ↓reduceIte, Nat.reduceLT, Int.reduceLT, Int.reduceLE, Int.reduceToNat, Hp.cell, Hp.row, Hp.wr, tArrx31, tBuildFx24x0, tBuildFx24x1, tBuildFx30x0, tBuildFx30x1, tBuildOkx24, tBuildOkx30, tElemx34, tFieldAx33x0, tFieldAx33x2, tFieldAx36x1, tFieldAx85x0, tIntx3x22, tIntx3x28, tPartx22, tPartx36, tSizex24, tSizex30, tSizex36, tZerox24, tZerox30, q0, g0, p1, p2, n1, ne_f n1, ne_f0 n1, lt_t n1, lt_t0 n1, w1, w2, w3, hnn, hlt', hg1, ne_f nb, ne_f0 nb, lt_t nb, lt_t0 nb, h1, Int.toNat_natCast]
    have hcut : cutV' E l m = (E + 2, (((m : Int), e.1), [], ((0, 0), ((m : Int), (m : Int)), (0, 0))), l.drop m) := by unfold cutV'; rw [if_neg hm0, hep]
    have bm : IntKind.u64.min ≤ (m : Int) ∧ (m : Int) ≤ IntKind.u64.max := by constructor <;> simp [IntKind.min, IntKind.max, IntKind.bits, IntKind.signed] <;> omega
    have bm2 : IntKind.u32.min ≤ (m : Int) ∧ (m : Int) ≤ IntKind.u32.max := by constructor <;> simp [IntKind.min, IntKind.max, IntKind.bits, IntKind.signed] <;> omega
    rw [hcut]
    refine Al.done ⟨by simp only [Hp.size_setB, Hp.size_push]; omega, fun b hb => ?_⟩ (by simp only [Hp.ro_setB, Hp.ro_push]; exact hn2) ⟨_, rfl, R36_mk (x := (E + 2, (((m : Int), e.1), [], ((0, 0), ((m : Int), (m : Int)), (0, 0))), l.drop m)) bE bm d1 nilR w0 u0 bm2 bm w0 u0 (R34.mono f1 (fun b hb => ?_) id (Fr.of fun b hb => ?_))⟩
    · rw [get_set_ne (by omega), get_set_ne (by omega), get_set_ne (by omega), get_set_ne (by omega), get_push_ne (by omega)]; exact hkm.get b hb
    · rcases hb with hb | hb
      · exact .inl hb
      · right; simp only [Hp.size_setB, Hp.size_push]; omega
    · have hb' : b < m1.size ∧ b ≠ k.size := by
        rcases hb with hb | hb
        · have := hp b hb; omega
        · omega
      rw [get_set_ne hb'.2, get_set_ne (by omega), get_set_ne (by omega), get_set_ne (by omega), get_push_ne (by omega)]
end Go.Abs.B1
