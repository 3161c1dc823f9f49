/- Which disks are made, and what nothing answers. -/
import Derived.Test.YtnlhfcipapbfmaaDk30
namespace Go.Abs.B1
open Go.Proofs
set_option maxRecDepth 10000
set_option maxHeartbeats 4000000
set_option linter.all false
theorem eqB : aBin Try.prog .eql 98 (.agg zeroB.toArray) (.agg zeroB.toArray) = some (.bool true) :=
  (bin_eql_agg (P := Try.prog) (t := 98) (k := K98) (b := true) (by kernel_rfl) (by kernel_rfl) (by kernel_rfl) (cellsEq_self flat_zeroB (fun s hs => by simpa using hs))).1
theorem eqB2 : aBin Try.prog .eql 98 (.agg zeroB.toArray) (.agg #[.int .u8 0, .int .u8 0, .int .u8 0, .int .u8 0, .int .u8 0, .int .u8 0, .int .u8 0, .int .u8 0, .int .u8 0, .int .u8 0, .int .u8 0, .int .u8 0, .int .u8 0, .int .u8 0, .int .u8 0, .int .u8 0, .int .u8 0, .int .u8 0, .int .u8 0, .int .u8 0, .int .u8 0, .int .u8 0, .int .u8 0, .int .u8 0, .int .u8 0, .int .u8 0, .int .u8 0, .int .u8 0, .int .u8 0, .int .u8 0, .int .u8 0, .int .u8 0, .int .u8 0, .int .u8 0, .int .u8 0, .int .u8 0, .int .u8 0, .int .u8 0, .int .u8 0, .int .u8 0, .int .u8 0, .int .u8 0, .int .u8 0, .int .u8 0, .int .u8 0, .int .u8 0, .int .u8 0, .int .u8 0, .int .u8 0, .int .u8 0, .int .u8 0, .int .u8 0, .int .u8 0, .int .u8 0, .int .u8 0, .int .u8 0, .int .u8 0, .int .u8 0, .int .u8 0, .int .u8 0, .int .u8 0, .int .u8 0, .int .u8 0, .int .u8 0]) = some (.bool true) := eqB
section
variable {k : Hp}
theorem run11 {cs : List Value} {x : T94} (n : Int) (hn : i64ok n) (r : R94.r false (· < k.size) k cs x) (hro : k.ro ≤ k.size) : ∃ N, Al k (fun _ w => w = .bool true) (evalV Try.prog I0 N (.fn 11) #[.int .i64 n, .agg cs.toArray] k) := by
  refine ⟨300 + 1, ?_⟩
  generalize hN : 300 = N
  have r00 := r
  obtain ⟨v1, rfl, b1, b2, b3, b4, r5⟩ := R94_inv r
  have o1 := (Rp.slice Rp.bool).rone r5 v1 (List.mem_singleton.2 rfl)
  have h0 : I0 11 = none := rfl
  rw [evalV_call (P := Try.prog) (intr := I0) (f := 11) (m := 78) (rs := #[.tmp 4]) h0 Try.func11 rfl rfl rfl]
  simp (maxDischargeDepth := 16) only [z08, z09, z0d, z0e, z0p, z0q, z0s, z0t, z0v, z0w, z0x, z11, z1h, z1l, z2o, z3b, z3h, z4e, z4f, z4g, z4h, z4i, z4j, z4l, z4p, z4q, z4r, z4s, z4t, z4u, z4v, z4w, z4x, z4y, z53, Nat.reduceAdd, Nat.reduceSub, ↓reduceIte, hasBx35]
  refine ex_any (Al k _) (Al.ex (run_wakes jDk rfl (by omega) (by simp only [Hp.size_push, Hp.ro_push]; omega))) ?_
  rintro _ k0 ⟨hk0, hr0, rfl⟩
  simp only [Hp.ro_push] at hr0
  have s0 := hk0.size
  simp only [Hp.size_push] at s0
  have g0 := hk0.get k.size (by simp only [Hp.size_push]; omega)
  simp (maxDischargeDepth := 16) only [z34, ↓reduceIte] at g0
  have kk : Keeps k k0 := Keeps.trans (by repeat (first | assumption | exact Keeps.refl _ | refine Keeps.push ?_ _ | refine Keeps.set ?_ (by first | omega | (simp only [Hp.size_push, Hp.size_setB]; omega)) _)) hk0
  simp (maxDischargeDepth := 16) only [z04, z08, z09, z0a, z0c, z0d, z0e, z0p, z0q, z0s, z0t, z0v, z0x, z0z, z10, z14, z1l, z2h, z3b, z3h, z4e, z4f, z4g, z4h, z4i, z4j, z4k, z4l, z4s, z4u, z4v, z5c, ↓reduceIte, hasBx36]
  have n0 : k.size < k0.size := by omega
  by_cases hb : n < 1 ∨ 2048 < n
  · rw [run_New_bad jDk (by omega) hb]
    by_cases h1 : n < 1
    case' pos => simp (maxDischargeDepth := 16) only [z04, z08, z09, z0a, z0b, z0c, z0d, z0e, z0p, z0q, z0r, z0s, z0t, z0v, z0w, z0x, z0z, z10, z11, z12, z13, z1a, z1e, z1l, z1v, z1y, z2c, z2d, z2t, z2x, z3b, z3h, z3k, z3x, z3y, z3z, z41, z43, z46, z4e, z4f, z4g, z4h, z4i, z4j, z4k, z4l, z4m, z4n, z4o, z4p, z4q, z4r, z4s, z4u, z4v, z4z, z52, z53, z59, z5a, z5c, z5e, z7j, z7n, Nat.reduceAdd, Nat.reduceSub, ↓reduceIte, yielded, Hp.row, hasBx38, tPartx94, tPtrx89, h1, g0, ne_f n0, ne_f0 n0, lt_t n0, lt_t0 n0]
    case' neg =>
      have h2 : 2048 < n := by omega
      simp (maxDischargeDepth := 16) only [z04, z08, z09, z0a, z0b, z0c, z0d, z0e, z0p, z0q, z0r, z0s, z0t, z0v, z0w, z0x, z0z, z10, z11, z12, z13, z1a, z1e, z1l, z1v, z1y, z2c, z2d, z2f, z2t, z2x, z3b, z3h, z3x, z3y, z3z, z41, z43, z46, z4e, z4f, z4g, z4h, z4i, z4j, z4k, z4l, z4m, z4n, z4o, z4p, z4q, z4r, z4s, z4u, z4v, z4z, z52, z53, z59, z5a, z5b, z5c, z5e, z7j, z7n, Nat.reduceAdd, Nat.reduceSub, ↓reduceIte, yielded, Hp.row, hasBx38, tPartx94, tPtrx89, h1, h2, g0, ne_f n0, ne_f0 n0, lt_t n0, lt_t0 n0]
    all_goals
      refine ex_any (Al k _) (Al.ex (nil_does (N := N) (p := (· < k.size)) jDk jLw (by omega) (by have := kk.size; omega) (R94.mono r00 (fun _ h => h) id (kk.fr fun c hc => hc)) (fun c hc => by have := kk.size; omega))) ?_
      rintro _ h5 ⟨hk5, hr5, rfl⟩
      have kk5 := kk.trans hk5
      have r50 : (h5.ro ≤ h5.size) = True := by simp; have := kk5.size; omega
      have e1 := fun k => nil_Len (N := N) (k := k) jDk (by omega)
      have e2 := fun k => nil_Pending (N := N) (k := k) jDk (by omega)
      have e3 := fun k => nil_Dead (N := N) (k := k) jDk (by omega)
      have e4 := fun k => nil_Ops (N := N) (k := k) jDk (by omega)
      have e5 := fun k => nil_Copy (N := N) (k := k) jDk (by omega)
      have oz : zeroB.all oneC = true := rfl
      have tkz : zeroB.take 64 = zeroB := rfl
      have hzb : zeroB.length = 64 := rfl
      have hz64 : 64 ≤ zeroB.length := by decide
      have sp64 : ∀ (cs : List Value), cs.length = 64 → ∀ l : List Value, l.length = 64 → splice l.toArray 0 cs = cs.toArray := fun cs h l hl => splice_full (by simp [h, hl])
      have eqB' := eqB2
      simp (maxDischargeDepth := 16) only [z05, z08, z09, z0d, z0e, z0o, z0p, z0q, z0r, z0s, z0t, z0u, z0v, z0w, z0x, z0z, z10, z11, z12, z13, z14, z1a, z1b, z1e, z1f, z1g, z1l, z1p, z1r, z1v, z1w, z1x, z1y, z2b, z2h, z2o, z2t, z2x, z2y, z2z, z33, z34, z3b, z3c, z3f, z3h, z3x, z3y, z3z, z46, z49, z4c, z4e, z4f, z4g, z4h, z4i, z4j, z4k, z4l, z4m, z4n, z4o, z4p, z4q, z4r, z4s, z4u, z4v, z4z, z50, z51, z52, z53, z5a, z5d, z5e, z72, z7i, z7n, z7o, z80, z81, Nat.reduceAdd, Nat.reduceSub, ↓reduceIte, yielded, Hp.row, Hp.wr, hasBx37, hasBx48, hasBx49, hasBx50, hasBx51, tBuildOkx98, tLenx95, tPartx98, tPtrx89, tSizex98, tZerox98, r50, e1, e2, e3, e4, e5, oz, tkz, hzb, sp64, eqB']
      exact Al.done (kk5.trans (by repeat (first | assumption | exact Keeps.refl _ | refine Keeps.push ?_ _ | refine Keeps.set ?_ (by first | omega | (simp only [Hp.size_push, Hp.size_setB]; omega)) _))) (by simp only [Hp.ro_setB, Hp.ro_push]; omega) rfl
  · obtain ⟨j, rfl⟩ : ∃ j : Nat, n = (j : Int) := ⟨n.toNat, by omega⟩
    have q1 : ¬ (j : Int) < 1 := by omega
    have q2 : ¬ (2048 : Int) < (j : Int) := by omega
    have mk : ∀ h : Hp, aMakeSlice Try.prog 110 (.int .i64 (j : Int)) (.int .i64 (j : Int)) h = some (.slice (some ⟨h.size, 0, none⟩) j j, h.push (some (.cells (Builtin.zeroCells zeroB.toArray j) true))) := fun h => makeSlice_val tRowPl (by simp [zeroB]) (by omega) (by omega)
    refine ex_any (Al k _) (run_New (n := j) jDk (by omega) (by omega) (by omega) (by omega)) ?_
    rintro _ k1 ⟨b, rfl, hb, hk1, hr1, d1⟩
    simp (maxDischargeDepth := 16) only [z08, z09, z0a, z0c, z0d, z0e, z0p, z0q, z0r, z0s, z0t, z0v, z0w, z0x, z0z, z10, z11, z12, z13, z1a, z1b, z1j, z1l, z1y, z2c, z2d, z2f, z2q, z2t, z3b, z3h, z3v, z3w, z49, z4e, z4f, z4g, z4h, z4i, z4j, z4k, z4l, z4m, z4n, z4o, z4p, z4q, z4r, z4s, z4u, z4v, z4z, z50, z51, z52, z53, z59, z5a, z5b, z5c, z5e, z72, z80, z81, z82, z83, Nat.reduceLeDiff, Nat.reduceAdd, ↓reduceIte, yielded, hasBx43, tBuildFx113x0, tBuildOkx113, tZerox113, q1, q2, mk]
    refine ex_ev (S := fun v h => v = .bool true ∧ Keeps k1 h ∧ h.ro = k1.ro) (Al k _) (fun h1 hh1 => ?_) ?_
    · have s1 : h1.size = k1.size + 1 := by rw [hh1]; simp only [Hp.size_push]
      have r1 : h1.ro = k1.ro := by rw [hh1]; simp only [Hp.ro_push]
      have kh : Keeps k1 h1 := by rw [hh1]; exact (by repeat (first | assumption | exact Keeps.refl _ | refine Keeps.push ?_ _ | refine Keeps.set ?_ (by first | omega | (simp only [Hp.size_push, Hp.size_setB]; omega)) _))
      have g1 : h1.get k1.size = some (.cells (Builtin.zeroCells zeroB.toArray j) true) := by rw [hh1, get_push_self]
      have hz : (Builtin.zeroCells zeroB.toArray j).size = j * 64 := by rw [zeroCells_size]; rfl
      have own : OwnC R98 h1 (.slice (some ⟨k1.size, 0, none⟩) j j) (some k1.size) (List.replicate j zeroB) := by
        refine .inr ⟨k1.size, j, _, by simp, rfl, .inr ⟨by unfold capOpen; omega, by rw [hz, show R98.len = 64 from rfl]; exact Nat.le_refl _⟩, by simp, by simp [capOpen]; omega, by omega, g1, fun w hw => ?_, by rw [hz, List.length_replicate, show R98.len = 64 from rfl]; exact Nat.le_refl _, ?_⟩
        · exact rows.flatE flatBlk (rows_zero (e := R98) (o := true) (p := nop) (k := h1) (z := zeroB.toArray) (x := zeroB) ⟨rfl, flat_zeroB⟩ j) w (Array.mem_toList_iff.2 hw)
        · rw [List.take_of_length_le (by rw [Array.length_toList, hz, List.length_replicate, show R98.len = 64 from rfl]; exact Nat.le_refl _)]
          exact rows_zero (e := R98) ⟨rfl, flat_zeroB⟩ j
      have z64 : i64ok 0 := ⟨by rw [i64_minmax.1]; omega, by rw [i64_minmax.2]; omega⟩
      have rm : R113.r false (fun c => c = k1.size) h1 [.slice (some ⟨k1.size, 0, none⟩) j j, .slice none 0 0, .int .i64 0, .int .i64 0, .bool false, .int .i64 0] ((newS j).1, (newS j).2.1, 0, 0, (newS j).2.2.2.2) :=
        R113_mk (x := ((newS j).1, (newS j).2.1, 0, 0, (newS j).2.2.2.2)) (ownFr own (fun c hc => by cases hc; rfl)) (ownFr OwnC.nil (fun c hc => by cases hc)) z64 z64 z64
      exact (Al.ex (run_isG (N := N) jDk jLw (by omega) (d1.keep kh r1) rm (fun c hc => by omega))).mono (fun v h ⟨a1, a2, a3⟩ => ⟨a3, kh.trans a1, by omega⟩)
    rintro _ k2 ⟨rfl, hk2, hr2⟩
    have g2 := ((hk1.trans hk2).get k.size (by omega)).trans g0
    have n2 : k.size < k2.size := by have := (hk1.trans hk2).size; omega
    simp (maxDischargeDepth := 16) only [z04, z08, z09, z0a, z0c, z0d, z0e, z0p, z0q, z0r, z0s, z0t, z0v, z0w, z0x, z0z, z10, z11, z12, z14, z1e, z1l, z1v, z1y, z2h, z2x, z3b, z3h, z3x, z3y, z3z, z41, z43, z46, z4e, z4f, z4g, z4h, z4i, z4j, z4k, z4l, z4m, z4n, z4o, z4p, z4q, z4r, z4s, z4u, z4v, z4z, z52, z53, z59, z5c, z5e, Nat.reduceAdd, Nat.reduceSub, ↓reduceIte, yielded, Hp.row, hasBx38, tPartx94, g2, ne_f n2, ne_f0 n2, lt_t n2, lt_t0 n2]
    have kk2 := kk.trans (hk1.trans hk2)
    refine ex_any (Al k _) (Al.ex (nil_does (N := N) (p := (· < k.size)) jDk jLw (by omega) (by have := kk2.size; omega) (R94.mono r00 (fun _ h => h) id (kk2.fr fun c hc => hc)) (fun c hc => by have := kk2.size; omega))) ?_
    rintro _ h5 ⟨hk5, hr5, rfl⟩
    have kk5 := kk2.trans hk5
    have r50 : (h5.ro ≤ h5.size) = True := by simp; have := kk5.size; omega
    have e1 := fun k => nil_Len (N := N) (k := k) jDk (by omega)
    have e2 := fun k => nil_Pending (N := N) (k := k) jDk (by omega)
    have e3 := fun k => nil_Dead (N := N) (k := k) jDk (by omega)
    have e4 := fun k => nil_Ops (N := N) (k := k) jDk (by omega)
    have e5 := fun k => nil_Copy (N := N) (k := k) jDk (by omega)
    have oz : zeroB.all oneC = true := rfl
    have tkz : zeroB.take 64 = zeroB := rfl
    have hzb : zeroB.length = 64 := rfl
    have hz64 : 64 ≤ zeroB.length := by decide
    have sp64 : ∀ (cs : List Value), cs.length = 64 → ∀ l : List Value, l.length = 64 → splice l.toArray 0 cs = cs.toArray := fun cs h l hl => splice_full (by simp [h, hl])
    have eqB' := eqB2
    simp (maxDischargeDepth := 16) only [z05, z08, z09, z0d, z0e, z0o, z0p, z0q, z0r, z0s, z0t, z0u, z0v, z0w, z0x, z0z, z10, z11, z12, z13, z14, z1a, z1b, z1e, z1f, z1g, z1l, z1p, z1r, z1v, z1w, z1x, z1y, z2b, z2h, z2o, z2t, z2x, z2y, z2z, z33, z34, z3b, z3c, z3f, z3h, z3x, z3y, z3z, z46, z49, z4c, z4e, z4f, z4g, z4h, z4i, z4j, z4k, z4l, z4m, z4n, z4o, z4p, z4q, z4r, z4s, z4u, z4v, z4z, z50, z51, z52, z53, z5a, z5d, z5e, z72, z7i, z7n, z7o, z80, z81, Nat.reduceAdd, Nat.reduceSub, ↓reduceIte, yielded, Hp.row, Hp.wr, hasBx37, hasBx48, hasBx49, hasBx50, hasBx51, tBuildOkx98, tLenx95, tPartx98, tPtrx89, tSizex98, tZerox98, r50, e1, e2, e3, e4, e5, oz, tkz, hzb, sp64, eqB']
    exact Al.done (kk5.trans (by repeat (first | assumption | exact Keeps.refl _ | refine Keeps.push ?_ _ | refine Keeps.set ?_ (by first | omega | (simp only [Hp.size_push, Hp.size_setB]; omega)) _))) (by simp only [Hp.ro_setB, Hp.ro_push]; omega) rfl
end
end Go.Abs.B1
