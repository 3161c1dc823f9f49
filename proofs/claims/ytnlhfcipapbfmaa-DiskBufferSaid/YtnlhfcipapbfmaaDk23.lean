/- A deed: its kind, what it keeps, its block. -/
import Derived.Test.YtnlhfcipapbfmaaDk22
namespace Go.Abs.B1
open Go.Proofs
set_option maxRecDepth 10000
set_option maxHeartbeats 4000000
set_option linter.all false
def blockL (f : Int) : List Value := List.replicate 64 (Value.int .u8 f)
theorem blockL_flat {f : Int} (hf : IntKind.u8.min ≤ f ∧ f ≤ IntKind.u8.max) : flatOk K98 (blockL f) := by
  have h : ∀ n, flatOk (List.replicate n (.int .u8)) (List.replicate n (Value.int .u8 f)) := fun n => by
    induction n with
    | zero => trivial
    | succ n ih => exact ⟨⟨rfl, hf⟩, ih⟩
  exact h 64
def kindN (x : T94) : Int := (IntKind.u64.wrap x.1).tmod 10
theorem textBl : rowOrText (Try.prog.underlying 92) = true := by kernel_rfl
structure ILw (I : Intr) : Prop where
  kind : I 39 = none
  keep : I 74 = none
  CloneBool : I 105 = none
  block : I 75 = none
  does : I 38 = none
  models : I 42 = none
  is : I 43 = none
section
variable {I : Intr} {N : Nat} {k : Hp} {S : Nat → Prop} {b : Nat} {D : DV} {p : Nat → Prop}
theorem run_kind (J : ILw I) (hN : 0 < N) {cs : List Value} {x : T94} (r : R94.r false p k cs x) :
    Al k (fun _ v => v = .int .u64 (kindN x)) (evalV Try.prog I N (.fn 39) #[.agg cs.toArray] k) := by
  obtain ⟨N, rfl⟩ : ∃ n, N = n + 1 := ⟨N - 1, by omega⟩
  obtain ⟨v1, rfl, b1, b2, b3, b4, r5⟩ := R94_inv r
  have o1 := (Rp.slice Rp.bool).rone r5 v1 (List.mem_singleton.2 rfl)
  rw [evalV_call (P := Try.prog) (intr := I) (f := 39) (m := 7) (rs := #[.tmp 2]) J.kind Try.func39 rfl rfl rfl]
  simp (maxDischargeDepth := 16) only [z05, z08, z09, z0d, z0e, z0o, z0p, z0q, z0s, z0t, z0v, z0w, z0z, z11, z13, z15, z16, z1e, z1h, z1v, z2o, z2w, z2x, z34, z3b, z3c, z3f, z4e, z4f, z4g, z4h, z4i, z4m, z4n, z4p, z4q, z4r, z4s, z4t, z4u, z4w, z4x, z4y, z4z, z50, z51, z53, z54, z7z, Nat.reduceSub, ↓reduceIte, Hp.cell, tFieldAx94x0, tIntx3x102, tPartx3, bin_rem (show (10 : Int) ≠ 0 by decide)]
  exact Al.done (by repeat (first | assumption | exact Keeps.refl _ | refine Keeps.push ?_ _ | refine Keeps.set ?_ (by first | omega | (simp only [Hp.size_push, Hp.size_setB]; omega)) _)) rfl rfl
theorem run_CloneBool (J : ILw I) (hN : 0 < N) (hro : k.ro ≤ k.size) {v : Value} {ks : List Bool} (r : (Rp.slice Rp.bool).r false p k [v] ks) (hp : ∀ c, p c → c < k.size) (hl : ks.length ≤ 1000) :
    Al k (fun k' u => ∃ q, OwnC Rp.bool k' u q ks ∧ ∀ c, q = some c → k.size ≤ c) (evalV Try.prog I N (.fn 105) #[v] k) := by
  obtain ⟨N, rfl⟩ : ∃ n, N = n + 1 := ⟨N - 1, by omega⟩
  obtain ⟨a, c, rfl, -, -⟩ := slice_form r
  have ow := (Rp.slice Rp.bool).rone r _ (List.mem_singleton.2 rfl)
  rw [evalV_call (P := Try.prog) (intr := I) (f := 105) (m := 8) (rs := #[.tmp 2]) J.CloneBool Try.func105 rfl rfl rfl]
  cases a with
  | none =>
    have h0 : ks = [] := by
      obtain ⟨a, c', e', -, -, h⟩ := r
      rcases h with ⟨h, -⟩ | ⟨b, off, cells, ow, h, -⟩
      · exact h
      · subst h; simp at e'
    subst h0
    simp (maxDischargeDepth := 16) only [z05, z08, z09, z0a, z0b, z0d, z0e, z0f, z0o, z0p, z0q, z0s, z0t, z0v, z0w, z0z, z10, z11, z13, z3b, z3c, z3f, z4e, z4f, z4g, z4h, z4i, z4p, z4q, z4r, z4s, z4t, z4u, z4w, z4x, z4y, z4z, z53, z7k, z7n, Nat.reduceSub, tSlix92]
    exact Al.done (by repeat (first | assumption | exact Keeps.refl _ | refine Keeps.push ?_ _ | refine Keeps.set ?_ (by first | omega | (simp only [Hp.size_push, Hp.size_setB]; omega)) _)) rfl ⟨none, OwnC.nil, fun c h => by cases h⟩
  | some a =>
    simp (maxDischargeDepth := 16) only [z04, z08, z09, z0a, z0c, z0d, z0e, z0p, z0q, z0s, z0t, z0v, z0w, z0z, z10, z11, z13, z1i, z1m, z3b, z4e, z4f, z4g, z4h, z4i, z4j, z4k, z4l, z4p, z4q, z4r, z4s, z4t, z4u, z4w, z4x, z4y, z50, z53, z7k, z7m, z86, Nat.reduceSub, tRowx92, tSlix92]
    refine ex_any (Al k _) (Al.ex (copy_c (P := Try.prog) (t := 92) (tx := 92) (e := Rp.bool) (q := p) (ys := ks) (b := k.size) flatE_bool tRowBl textBl rfl (by decide) ((Rp.slice Rp.bool).mono r (fun _ h => h) id (Keeps.fr (h := k) (by repeat (first | assumption | exact Keeps.refl _ | refine Keeps.push ?_ _ | refine Keeps.set ?_ (by first | omega | (simp only [Hp.size_push, Hp.size_setB]; omega)) _)) hp)) (by simp only [Hp.size_push]; omega) (by simp (maxDischargeDepth := 16) only [z34, ↓reduceIte]) (by simp only [Hp.ro_push]; omega) (fun c hc => by have := hp c hc; simp only [Hp.size_push]; omega) (fun hc => by have := hp _ hc; omega) (by omega) (by unfold capOpen; omega))) ?_
    rintro u k2 ⟨hk2, hr2, q, hq, hql, o2⟩
    simp only [Hp.size_push, Hp.ro_push] at hq hr2
    simp (maxDischargeDepth := 16) only [z05, z0d, z0e, z0o, z0p, z0q, z0s, z0t, z0v, z11, z3b, z3c, z3f, z4e, z4f, z4g, z4h, z4i, z4z]
    exact Al.done (Keeps.trans (by repeat (first | assumption | exact Keeps.refl _ | refine Keeps.push ?_ _ | refine Keeps.set ?_ (by first | omega | (simp only [Hp.size_push, Hp.size_setB]; omega)) _)) hk2) hr2 ⟨some q, o2, fun c hc => by cases hc; omega⟩
theorem run_keep (J : ILw I) (hN : 5 < N) (hro : k.ro ≤ k.size) {cs : List Value} {x : T94} (r : R94.r false p k cs x) (hp : ∀ c, p c → c < k.size) :
    Al k (fun k' u => ∃ q, OwnC Rp.bool k' u q (x.2.2.2.2.take 30) ∧ ∀ c, q = some c → k.size ≤ c) (evalV Try.prog I N (.fn 74) #[.agg cs.toArray] k) := by
  obtain ⟨N, rfl⟩ : ∃ n, N = n + 1 := ⟨N - 1, by omega⟩
  obtain ⟨v1, rfl, b1, b2, b3, b4, r5⟩ := R94_inv r
  have o1 := (Rp.slice Rp.bool).rone r5 v1 (List.mem_singleton.2 rfl)
  have hf := slice_form r5
  obtain ⟨u, hu, ru⟩ := slice_rp (P := Try.prog) (e := Rp.bool) (h := k.push (some (.cells (#[.int .i64 x.1, .int .i64 x.2.1, .int .i64 x.2.2.1, .int .u8 x.2.2.2.1, v1] : Array Value) true))) (t := 92) (l := 0) (hh := min x.2.2.2.2.length 30) (lov := none) (hiv := some (.int .i64 (min (x.2.2.2.2.length : Int) 30))) ((Rp.slice Rp.bool).mono r5 (fun _ h => h) id (Keeps.fr (h := k) (by repeat (first | assumption | exact Keeps.refl _ | refine Keeps.push ?_ _ | refine Keeps.set ?_ (by first | omega | (simp only [Hp.size_push, Hp.size_setB]; omega)) _)) hp)) (by kernel_rfl) (by decide) rfl ⟨.i64, by congr 1; omega⟩ (by omega) (by omega) (.inl rfl)
  rw [List.drop_zero] at ru
  have e30 : x.2.2.2.2.take (min x.2.2.2.2.length 30) = x.2.2.2.2.take 30 := by rw [List.take_eq_take_iff]; omega
  rw [e30] at ru
  obtain ⟨a, c, rfl, -, -⟩ := hf
  rw [evalV_call (P := Try.prog) (intr := I) (f := 74) (m := 11) (rs := #[.tmp 2]) J.keep Try.func74 rfl rfl rfl]
  simp (maxDischargeDepth := 16) only [z08, z09, z0d, z0e, z0p, z0q, z0s, z0t, z0v, z0w, z0x, z0z, z11, z16, z1e, z1h, z1k, z1l, z1p, z1r, z1u, z1v, z2l, z2o, z2w, z2x, z34, z3b, z3h, z4e, z4f, z4g, z4h, z4i, z4j, z4k, z4l, z4m, z4n, z4o, z4p, z4q, z4r, z4s, z4t, z4u, z4v, z4w, z4x, z4y, z4z, z50, z51, z53, z87, Nat.reduceSub, ↓reduceIte, Hp.cell, hasBx105, tFieldAx94x4, tLenx92, tPartx92, hu]
  refine al_kops (run_CloneBool J (N := N) (p := p) (by omega) (by simp only [Hp.size_push, Hp.ro_push]; omega) ru (fun c hc => by have := hp c hc; simp only [Hp.size_push]; omega) (by simp; omega)) ?_
  rintro u2 k2 hk2 hr2 ⟨q, o2, hq⟩
  simp only [Hp.size_push] at hq
  simp (maxDischargeDepth := 16) only [z05, z0d, z0e, z0o, z0p, z0q, z0s, z0t, z0v, z11, z3b, z3c, z3f, z4e, z4f, z4g, z4h, z4i, z4z]
  exact Al.done (Keeps.trans (by repeat (first | assumption | exact Keeps.refl _ | refine Keeps.push ?_ _ | refine Keeps.set ?_ (by first | omega | (simp only [Hp.size_push, Hp.size_setB]; omega)) _)) hk2) (by rw [hr2]; simp only [Hp.ro_push]) ⟨q, o2, fun c hc => by have := hq c hc; omega⟩
theorem run_block (J : ILw I) (hN : 70 < N) (hro : k.ro ≤ k.size) {f : Int} (hf : IntKind.u8.min ≤ f ∧ f ≤ IntKind.u8.max) :
    Al k (fun _ v => v = .agg (blockL f).toArray) (evalV Try.prog I N (.fn 75) #[.int .u8 f] k) := by
  obtain ⟨N, rfl⟩ : ∃ n, N = n + 1 := ⟨N - 1, by omega⟩
  have r0 : (k.ro ≤ k.size) = True := by simp [hro]
  have r1 : ∀ j, (k.ro ≤ k.size + j) = True := fun j => by simp; omega
  have hone : oneC (Value.int .u8 f) = true := rfl
  rw [evalV_call (P := Try.prog) (intr := I) (f := 75) (m := 13) (rs := #[.cell 2 98]) J.block Try.func75 rfl rfl rfl]
  simp (maxDischargeDepth := 16) only [z08, z09, z0d, z0e, z0p, z0q, z0s, z0t, z0w, z10, z1g, z2z, z4a, z4g, z4h, z4i, z4p, z4q, z4r, z4s, z4t, z4u, z4w, z4x, z4y, z4z, z53, evalC_block, Nat.reduceSub, tZerox98]
  refine loop_rule (Al k _) (fun m x h => ∃ (i : Nat) (bs : List Value), m = 64 - i ∧ i ≤ 64 ∧ Keeps k h ∧ h.ro = k.ro ∧ k.size + 2 ≤ h.size ∧ bs.length = 64 ∧ h.get k.size = some (.cells zeroB.toArray true) ∧ h.get (k.size + 1) = some (.cells bs.toArray true) ∧ (∀ j, j < i → bs[j]? = some (Value.int .u8 f)) ∧ x.tmps.size = 13 ∧ x.defers = [] ∧ x.tmps.getD 0 undef = .int .u8 f ∧ x.tmps.getD 2 undef = .pointer (some ⟨k.size, 0, none⟩) ∧ x.tmps.getD 3 undef = .pointer (some ⟨k.size + 1, 0, none⟩) ∧ x.tmps.getD 5 undef = .int .i64 (i : Int)) ?_ _ 64 _ _ ?_ ?_
  · intro m n' x h hI' ih
    obtain ⟨i, bs, hm, hi, hk, hr, hsz, hbl, gz, gb, hall, hxs, hxd, l0, l2, l3, l5⟩ := hI'
    obtain ⟨g, rfl⟩ : ∃ g : Nat → Value, x = { tmps := #[.int .u8 f, g 1, .pointer (some ⟨k.size, 0, none⟩), .pointer (some ⟨k.size + 1, 0, none⟩), g 4, .int .i64 (i : Int), g 6, g 7, g 8, g 9, g 10, g 11, g 12], defers := [] } := ⟨fun k => x.tmps.getD k undef, (act_eta hxs hxd).trans (by simp only [unrollL, Nat.reduceAdd, Nat.zero_add, l0, l2, l3, l5])⟩; clear hxs hxd l0 l2 l3 l5
    have n0 : k.size < h.size := by omega
    have n1 : k.size + 1 < h.size := by omega
    have rq0 : (h.ro ≤ k.size) = True := by simp; omega
    have rq1 : (h.ro ≤ k.size + 1) = True := by simp; omega
    by_cases hlt : i < 64
    · have hlt' : ((i : Int) < 64) = True := by simp; omega
      have hlt2 : ((i : Int) < ((64 : Nat) : Int)) = True := by simp; omega
      have hii : (0 ≤ (i : Int)) = True := by simp
      have w3 := i64_succ (i := i) (by omega)
      have hil : i + 1 ≤ bs.length := by omega
      simp (maxDischargeDepth := 16) only [z04, z08, z09, z0a, z0b, z0d, z0e, z0h, z0k, z0p, z0q, z0s, z0t, z0u, z0v, z0w, z0z, z10, z11, z13, z18, z1f, z1w, z1x, z1z, z24, z2d, z2m, z2v, z2y, z3b, z3v, z3w, z44, z45, z49, z4e, z4f, z4g, z4h, z4i, z4p, z4q, z4r, z50, z51, z53, z5a, z5f, z72, evalC_block, ↓reduceIte, Hp.wr, tArrx98, tSizex5, hlt', hii, Int.toNat_natCast, gb, ne_f n1, ne_f0 n1, lt_t n1, lt_t0 n1, rq1, hil, hone, w3, hlt2, Nat.mul_one]
      refine ih (m - 1) _ _ (by omega) ⟨i + 1, bs.set i (Value.int .u8 f), by omega, by omega, (by repeat (first | assumption | exact Keeps.refl _ | refine Keeps.push ?_ _ | refine Keeps.set ?_ (by first | omega | (simp only [Hp.size_push, Hp.size_setB]; omega)) _)), hr, by simp only [Hp.size_setB]; omega, by rw [List.length_set]; exact hbl, by rw [get_set_ne (by omega)]; exact gz, get_set_self, fun j hj => ?_, rfl, rfl, rfl, rfl, rfl, rfl⟩
      rw [List.getElem?_set]
      by_cases he : i = j
      · subst he; rw [if_pos rfl, if_pos (by omega)]
      · rw [if_neg he]; exact hall j (by omega)
    · have hlt' : ((i : Int) < 64) = False := by simp; omega
      have hb64 : 64 ≤ bs.length := by omega
      have hz64 : 64 ≤ zeroB.length := by decide
      have eb : bs = blockL f := List.ext_getElem? fun j => by
        by_cases hj : j < 64
        · rw [hall j (by omega), blockL, List.getElem?_replicate, if_pos hj]
        · rw [List.getElem?_eq_none (by omega), List.getElem?_eq_none (by simp [blockL]; omega)]
      have oa : bs.all oneC = true := by rw [eb]; rfl
      have tk : bs.take 64 = bs := List.take_of_length_le (by omega)
      have sp : splice zeroB.toArray 0 bs = bs.toArray := splice_full (by rw [hbl]; rfl)
      simp (maxDischargeDepth := 16) only [z05, z06, z08, z09, z0a, z0c, z0d, z0e, z0g, z0j, z0m, z0o, z0p, z0q, z0s, z0t, z0u, z0v, z0w, z0z, z13, z1e, z1f, z1v, z1w, z1x, z2d, z2o, z2x, z2y, z33, z3b, z3c, z3g, z3x, z3y, z3z, z46, z49, z4e, z4f, z4g, z4h, z4i, z4p, z4z, z53, z5b, z72, Nat.reduceSub, ↓reduceIte, Hp.row, Hp.wr, tPartx98, tSizex98, hlt', gb, gz, ne_f n0, ne_f0 n0, lt_t n0, lt_t0 n0, ne_f n1, ne_f0 n1, lt_t n1, lt_t0 n1, rq0, hz64, hbl, oa, tk, sp]
      exact Al.done (by repeat (first | assumption | exact Keeps.refl _ | refine Keeps.push ?_ _ | refine Keeps.set ?_ (by first | omega | (simp only [Hp.size_push, Hp.size_setB]; omega)) _)) hr (by rw [eb])
  · omega
  · exact ⟨0, zeroB, by omega, by omega, (by repeat (first | assumption | exact Keeps.refl _ | refine Keeps.push ?_ _ | refine Keeps.set ?_ (by first | omega | (simp only [Hp.size_push, Hp.size_setB]; omega)) _)), rfl, by simp only [Hp.size_push]; omega, rfl, by simp (maxDischargeDepth := 16) only [z34, z38, z39, z4a, ↓reduceIte]; rfl, by simp (maxDischargeDepth := 16) only [z34, z4a, ↓reduceIte]; rfl, fun j hj => by omega, rfl, rfl, rfl, rfl, rfl, rfl⟩
end
end Go.Abs.B1
