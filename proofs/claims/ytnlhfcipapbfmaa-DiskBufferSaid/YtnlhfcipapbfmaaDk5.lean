/- The disk: the place of a sector's row. -/
import Derived.Test.YtnlhfcipapbfmaaDk4
namespace Go.Abs.B1
open Go.Proofs
set_option maxRecDepth 10000
set_option maxHeartbeats 4000000
set_option linter.all false
def idxF (s : Int) : List T167 → Nat → Int
  | [], _ => -1
  | x :: xs, n => if x.1 = s then (n : Int) else idxF s xs (n + 1)
theorem idxF_range (s : Int) : ∀ (xs : List T167) (n : Nat), (idxF s xs n = -1 ∧ ∀ x ∈ xs, x.1 ≠ s) ∨ ∃ j x, xs[j]? = some x ∧ x.1 = s ∧ idxF s xs n = ((n + j : Nat) : Int) ∧ ∀ i y, i < j → xs[i]? = some y → y.1 ≠ s
  | [], n => .inl ⟨rfl, by simp⟩
  | x :: xs, n => by
    by_cases h : x.1 = s
    · exact .inr ⟨0, x, rfl, h, by simp [idxF, h], fun i y hi => by omega⟩
    · rcases idxF_range s xs (n + 1) with ⟨h1, h2⟩ | ⟨j, y, h1, h2, h3, h4⟩
      · exact .inl ⟨by simp [idxF, h, h1], fun y hy => by
          rcases List.mem_cons.1 hy with rfl | hy
          · exact h
          · exact h2 y hy⟩
      · refine .inr ⟨j + 1, y, by simpa using h1, h2, by simp only [idxF, h, if_false, h3]; congr 1; omega, fun i z hi hz => ?_⟩
        cases i with
        | zero => simp at hz; subst hz; exact h
        | succ i => exact h4 i z (by omega) (by simpa using hz)
section
variable {I : Intr} {N : Nat} {k : Hp} {S : Nat → Prop} {b : Nat} {D : DV} {p : Nat → Prop}
theorem run_held1 (h1 : I 111 = none) (hN : 0 < N) {cs : List Value} {x : T167} (r : R167.r false p k cs x) {c : Nat} {s : Int} {ow : Bool} (hg : k.get c = some (.cells #[.int .i64 s] ow)) (hc : c < k.size) (hro : k.ro ≤ k.size) :
    Al k (fun _ v => v = .bool (decide (x.1 = s))) (evalV Try.prog I N (.fn 111) #[.agg cs.toArray, .pointer (some ⟨c, 0, none⟩)] k) := by
  obtain ⟨N, rfl⟩ : ∃ n, N = n + 1 := ⟨N - 1, by omega⟩
  obtain ⟨l, rfl, -, -⟩ := R167_inv r
  rw [evalV_call (P := Try.prog) (intr := I) (f := 111) (m := 8) (rs := #[.tmp 3]) h1 Try.func111 rfl rfl rfl]
  simp (maxDischargeDepth := 16) only [z05, z08, z09, z0d, z0e, z0o, z0p, z0q, z0s, z0t, z0v, z0w, z0z, z11, z13, z16, z1e, z1h, z1v, z2b, z2o, z2w, z2x, z34, z3b, z3c, z3f, z4e, z4f, z4g, z4h, z4i, z4m, z4n, z4p, z4q, z4r, z4s, z4t, z4u, z4w, z4x, z4y, z4z, z50, z51, z53, z54, Nat.reduceAdd, Nat.reduceSub, ↓reduceIte, Hp.cell, tFieldAx154x0, tPartx3, hg, ne_f hc, ne_f0 hc, lt_t hc, lt_t0 hc]
  exact Al.done (by repeat (first | assumption | exact Keeps.refl _ | refine Keeps.push ?_ _ | refine Keeps.set ?_ (by first | omega | (simp only [Hp.size_push, Hp.size_setB]; omega)) _)) rfl rfl
theorem run_IndexFunc (h1 : I 110 = none) (h2 : I 111 = none) {v : Value} {xs : List T167} (r : (Rp.slice R167).r false p k [v] xs) (hp : ∀ b, p b → b < k.size) (hN : xs.length + 10 < N) {c : Nat} {s : Int} {ow : Bool} (hg : k.get c = some (.cells #[.int .i64 s] ow)) (hc : c < k.size) (hro : k.ro ≤ k.size) :
    Al k (fun _ v => v = .int .i64 (idxF s xs 0)) (evalV Try.prog I N (.fn 110) #[v, .func (.func 111) #[] #[.pointer (some ⟨c, 0, none⟩)]] k) := by
  obtain ⟨N, rfl⟩ : ∃ n, N = n + 1 := ⟨N - 1, by omega⟩
  obtain ⟨a, cp, rfl, -, hl⟩ := slice_form r
  unfold capOpen at hl
  rw [evalV_call (P := Try.prog) (intr := I) (f := 110) (m := 19) (rs := #[.tmp 4]) h1 Try.func110 rfl rfl rfl]
  simp (maxDischargeDepth := 16) only [z08, z09, z0d, z0e, z0p, z0q, z0s, z0t, z0v, z0w, z0z, z10, z11, z1p, z1r, z3b, z4e, z4f, z4g, z4h, z4i, z4p, z4q, z4r, z4s, z4t, z4u, z4w, z4x, z4y, z53, evalC_block, Nat.reduceAdd, Nat.reduceSub, tLenx147]
  refine loop_rule (Al k _) (fun m x k' => ∃ i : Nat, m = xs.length - i ∧ i ≤ xs.length ∧ Keeps k k' ∧ k'.ro = k.ro ∧ idxF s xs 0 = idxF s (xs.drop i) i ∧ x.tmps.size = 19 ∧ x.defers = [] ∧ x.tmps.getD 0 undef = .slice a xs.length cp ∧ x.tmps.getD 1 undef = .func (.func 111) #[] #[.pointer (some ⟨c, 0, none⟩)] ∧ x.tmps.getD 7 undef = .int .i64 (xs.length : Int) ∧ x.tmps.getD 8 undef = .int .i64 (i : Int)) ?_ _ xs.length _ _ ?_ ?_
  · intro m n' x k' hI' ih
    obtain ⟨i, hm, hi, hk, hr, hx, hxs, hxd, l0, l1, l7, l8⟩ := hI'
    obtain ⟨g, rfl⟩ : ∃ g : Nat → Value, x = { tmps := #[.slice a xs.length cp, .func (.func 111) #[] #[.pointer (some ⟨c, 0, none⟩)], g 2, g 3, g 4, g 5, g 6, .int .i64 (xs.length : Int), .int .i64 (i : Int), g 9, g 10, g 11, g 12, g 13, g 14, g 15, g 16, g 17, g 18], defers := [] } := ⟨fun k => x.tmps.getD k undef, (act_eta hxs hxd).trans (by simp only [unrollL, Nat.reduceAdd, Nat.zero_add, l0, l1, l7, l8])⟩; clear hxs hxd l0 l1 l7 l8
    have hs := hk.size
    by_cases hlt : i < xs.length
    · have hlt' := lt_cast hlt
      obtain ⟨q1, q2, q3⟩ := dec_meas hlt hm
      obtain ⟨y, hy⟩ : ∃ y, xs[i]? = some y := ⟨_, List.getElem?_eq_getElem hlt⟩
      obtain ⟨bb, off, _, cells, ow', part, ee, hb0, hg', -, hp', hle, hex, -⟩ := elem_at (s := 65) r hy rfl (by decide)
      cases ee
      have hb := hp bb hb0
      have hgb := (hk.get bb hb).trans hg'
      have hb' : bb < k'.size := by omega
      have hnn : (0 ≤ (i : Int)) = True := by simp
      have w3 := i64_succ (i := i) (by omega)
      have hd : xs.drop i = y :: xs.drop (i + 1) := by rw [List.drop_eq_getElem_cons hlt]; congr 1; rw [List.getElem?_eq_getElem hlt] at hy; exact Option.some.inj hy
      simp (maxDischargeDepth := 16) only [z04, z08, z09, z0a, z0b, z0d, z0e, z0p, z0q, z0s, z0t, z0v, z0z, z10, z11, z13, z18, z1e, z1l, z1v, z1z, z2d, z2u, z2x, z3a, z3b, z3h, z4e, z4f, z4g, z4h, z4i, z4j, z4k, z4l, z4s, z4t, z4u, z4z, z50, z51, z5a, evalC_block, ↓reduceIte, Hp.row, tElemx147, tPartx154, hlt', hnn, hgb, ne_f hb', ne_f0 hb', lt_t hb', lt_t0 hb', hle, hex, Int.toNat_natCast, hasBx111]
      refine al_kops (run_held1 h2 (by omega) (p := p) (R167.mono hp' (fun _ h => h) id (hk.fr hp)) ((hk.get c hc).trans hg) (by omega) (by omega)) ?_
      rintro _ k2 hk2 hr2 rfl
      by_cases hys : y.1 = s
      · simp (maxDischargeDepth := 16) only [z05, z08, z09, z0a, z0b, z0d, z0e, z0f, z0i, z0l, z0o, z0p, z0q, z0s, z0t, z0v, z10, z11, z3b, z3c, z3f, z4e, z4f, z4g, z4h, z4i, z4z, z5a, eq_true hys]
        exact Al.done (hk.trans hk2) (by omega) (by rw [hx, hd]; simp [idxF, hys])
      · simp (maxDischargeDepth := 16) only [z04, z08, z0a, z0c, z0d, z0e, z0h, z0k, z0p, z0q, z0s, z0t, z0v, z0w, z0z, z10, z13, z24, z3b, z4e, z4f, z4g, z4h, z4i, z5b, hys, w3]
        exact ih (m - 1) _ _ q1 ⟨i + 1, q2, q3, hk.trans hk2, by omega, by rw [hx, hd]; simp [idxF, hys], rfl, rfl, rfl, rfl, rfl, rfl⟩
    · have hlt' := nlt_cast hlt
      simp (maxDischargeDepth := 16) only [z05, z06, z08, z09, z0a, z0c, z0d, z0e, z0g, z0j, z0m, z0o, z0p, z0q, z0s, z0t, z0v, z0w, z0z, z11, z13, z2d, z3b, z3c, z3f, z4e, z4f, z4g, z4h, z4i, z4z, z5b, ↓reduceIte, hlt']
      exact Al.done hk hr (by rw [hx, List.drop_eq_nil_of_le (by omega)]; rfl)
  · omega
  · exact ⟨0, by omega, by omega, Keeps.refl _, rfl, by simp, rfl, rfl, rfl, rfl, rfl, rfl⟩
theorem DiskAt.buf {D : DV} {pb : Nat} {bv : Value} {qb : Option Nat} (h : OwnC R167 k bv qb D.2.1) : (Rp.slice R167).r false (fun c => qb = some c) k [bv] D.2.1 :=
  (Rp.slice R167).mono h.rp (fun _ h => h) (by simp) (Fr.refl _)
theorem run_held (h0 : I 87 = none) (h1 : I 110 = none) (h2 : I 111 = none) (hN : 30 < N) (d : DiskAt S k b D) (hro : k.ro ≤ k.size) {s : Int} :
    Al k (fun _ v => v = .int .i64 (idxF s D.2.1 0)) (evalV Try.prog I N (.fn 87) #[.pointer (some ⟨b, 0, none⟩), .int .i64 s] k) := by
  obtain ⟨N, rfl⟩ : ∃ n, N = n + 1 := ⟨N - 1, by omega⟩
  obtain ⟨pb, pc, bv, qb, g1, g2, a1, a2, a3, a4, a5, a6, a7, a8, a9, a10⟩ := d
  have hr := DiskAt.buf (pb := pb) a2
  have hlen := a10.rows
  rw [evalV_call (P := Try.prog) (intr := I) (f := 87) (m := 11) (rs := #[.tmp 4]) h0 Try.func87 rfl rfl rfl]
  simp (maxDischargeDepth := 16) only [z08, z09, z0d, z0e, z0p, z0q, z0s, z0t, z0v, z0w, z0x, z0z, z10, z11, z16, z1c, z1d, z1e, z1h, z1l, z1v, z21, z2m, z2w, z2x, z34, z3b, z3h, z4e, z4f, z4g, z4h, z4i, z4j, z4k, z4l, z4m, z4n, z4o, z4p, z4q, z4r, z4s, z4t, z4u, z4v, z4w, z4x, z4y, z50, z51, z53, Nat.reduceAdd, Nat.reduceSub, ↓reduceIte, Hp.cell, hasBx110, tFieldAx149x1, tPartx147, g1, ne_f a3, ne_f0 a3, lt_t a3, lt_t0 a3]
  refine al_kops (run_IndexFunc h1 h2 (p := fun c => qb = some c) ((Rp.slice R167).mono hr (fun _ h => h) id (Keeps.fr (h := k) (by repeat (first | assumption | exact Keeps.refl _ | refine Keeps.push ?_ _ | refine Keeps.set ?_ (by first | omega | (simp only [Hp.size_push, Hp.size_setB]; omega)) _)) fun c hc => (a6 c hc).1)) (fun c hc => by have := (a6 c hc).1; simp only [Hp.size_push]; omega) (by omega) (s := s) (ow := true) (by simp (maxDischargeDepth := 16) only [z34, ↓reduceIte]) (by simp only [Hp.size_push]; omega) (by simp only [Hp.size_push, Hp.ro_push]; omega)) ?_
  rintro _ k2 hk2 hr2 rfl
  simp (maxDischargeDepth := 16) only [z05, z0d, z0e, z0o, z0p, z0q, z0s, z0t, z0v, z11, z3b, z3c, z3f, z4e, z4f, z4g, z4h, z4i, z4z]
  exact Al.done (Keeps.trans (by repeat (first | assumption | exact Keeps.refl _ | refine Keeps.push ?_ _ | refine Keeps.set ?_ (by first | omega | (simp only [Hp.size_push, Hp.size_setB]; omega)) _)) hk2) (by rw [hr2]; simp only [Hp.ro_push]) rfl
end
end Go.Abs.B1
