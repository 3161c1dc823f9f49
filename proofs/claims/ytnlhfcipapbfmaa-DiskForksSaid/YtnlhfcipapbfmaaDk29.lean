/- What a play of deeds answers. -/
import Derived.Test.YtnlhfcipapbfmaaDk28
namespace Go.Abs.B1
open Go.Proofs
set_option maxRecDepth 10000
set_option maxHeartbeats 4000000
set_option linter.all false
theorem putS_len (D : DV) (i : Int) (x : List Value) : (putS D i x).1.length = D.1.length := by
  unfold putS
  split
  · rfl
  · split
    · split
      · simp
      · rfl
    · rfl
theorem deedS_len (D : DV) (x : T94) : (deedS D x).1.1.length = D.1.length := by
  have h1 := fun i w => (actS_keeps D i w).1
  have hs : (syncS D).1.1.length = D.1.length := by
    unfold syncS
    split
    · simp only [emptyS, downL_len, h1]
    · rw [h1]
  have hw : ∀ i y, (writeS D i y).1.1.length = D.1.length := fun i y => by
    unfold writeS
    split
    · simp only [putS_len, h1]
    · rw [h1]
  unfold deedS
  split
  · simp only [readS, h1]
  · split
    · exact hs
    · split
      · unfold armS; split <;> rfl
      · split
        · unfold failS; split <;> rfl
        · split
          · simp only [crashS, downL_len]
          · exact hw _ _
theorem jDk : IDk I0 := ⟨rfl, rfl, rfl, rfl, rfl, rfl, rfl, rfl, rfl, rfl, rfl, rfl, rfl, rfl, rfl, rfl, rfl, rfl, rfl, rfl, rfl, rfl, rfl, rfl, rfl, rfl, rfl, rfl, rfl, rfl⟩
theorem jRf : IRf I0 := ⟨rfl, rfl, rfl, rfl, rfl, rfl, rfl, rfl, rfl⟩
theorem jLw : ILw I0 := ⟨rfl, rfl, rfl, rfl, rfl, rfl, rfl⟩
/-- The cells of a model. -/
def mdC (u1 u2 : Value) (D : DV) : List Value := [u1, u2, .int .i64 D.2.2.1, .int .i64 D.2.2.2.1, .bool D.2.2.2.2.1, .int .i64 D.2.2.2.2.2]
section
variable {I : Intr} {N : Nat} {k : Hp} {S : Nat → Prop} {b : Nat} {D : DV} {p : Nat → Prop}
/-- A disk and its model, side by side, both made behind k. -/
structure Pair (k h : Hp) (b a : Nat) (S p : Nat → Prop) (u1 u2 : Value) (E D : DV) : Prop where
  disk : DiskAt S h b E
  new : ∀ c, S c → k.size ≤ c
  keeps : Keeps k h
  ro : h.ro = k.ro
  ka : k.size ≤ a
  lt : a < h.size
  na : ¬ S a
  box : h.get a = some (.cells (mdC u1 u2 D).toArray true)
  md : R113.r false p h (mdC u1 u2 D) D
  apart : ∀ c, p c → c < h.size ∧ ¬ S c ∧ c ≠ a
theorem Pair.step {h h1 h2 : Hp} {a : Nat} {u1 u2 : Value} {E E' : DV} (P : Pair k h b a S p u1 u2 E D) (hk : Keeps h h1) (hr : h1.ro = h.ro) (st : Step S h1 h2 b E') : Pair k h2 b a (grow S h1 h2) p u1 u2 E' D := by
  have s1 := hk.size
  have s2 := st.2.1
  have s0 := P.keeps.size
  have hlt := P.lt
  have old : ∀ c, c < h.size → ¬ S c → h2.get c = h.get c := fun c hc hn => (st.2.2.2 c (by omega) hn).trans (hk.get c hc)
  refine ⟨st.1, fun c hc => ?_, ⟨by omega, fun c hc => ?_⟩, by have := st.2.2.1; have := P.ro; omega, P.ka, by omega, fun hc => ?_, (old _ hlt P.na).trans P.box, R113.mono P.md (fun _ h => h) id (Fr.of fun c hc => old c (P.apart c hc).1 (P.apart c hc).2.1), fun c hc => ⟨by have := (P.apart c hc).1; omega, fun hn => ?_, (P.apart c hc).2.2⟩⟩
  · rcases hc with hc | hc
    · exact P.new c hc
    · omega
  · rw [old c (by omega) (fun hS => by have := P.new c hS; omega), P.keeps.get c hc]
  · rcases hc with hc | hc
    · exact P.na hc
    · omega
  · rcases hn with hn | hn
    · exact (P.apart c hc).2.1 hn
    · have := (P.apart c hc).1; omega
theorem Pair.keep {h h1 : Hp} {a : Nat} {u1 u2 : Value} {E : DV} (P : Pair k h b a S p u1 u2 E D) (hk : Keeps h h1) (hr : h1.ro = h.ro) : Pair k h1 b a S p u1 u2 E D :=
  ⟨P.disk.keep hk hr, P.new, P.keeps.trans hk, hr.trans P.ro, P.ka, by have := P.lt; have := hk.size; omega, P.na, (hk.get _ P.lt).trans P.box, R113.mono P.md (fun _ h => h) id (hk.fr fun c hc => (P.apart c hc).1), fun c hc => ⟨by have := (P.apart c hc).1; have := hk.size; omega, (P.apart c hc).2⟩⟩
theorem run9 {v : Value} {l : List T94} (n : Int) (rl : R88.r false (· < k.size) k [v] l) (hro : k.ro ≤ k.size) : ∃ N, Al k (fun _ w => w = .bool true) (evalV Try.prog I0 N (.fn 9) #[.int .i64 n, v] k) := by
  refine ⟨l.length + 300 + 1, ?_⟩
  generalize hN : l.length + 300 = N
  obtain ⟨a, c, rfl, -, hl⟩ := slice_form rl
  unfold capOpen at hl
  obtain ⟨j, hj1, hj2, hj⟩ := size_eq n
  have h0 : I0 9 = none := rfl
  rw [evalV_call (P := Try.prog) (intr := I0) (f := 9) (m := 99) (rs := #[.tmp 4]) h0 Try.func9 rfl rfl rfl]
  simp (maxDischargeDepth := 16) only [z08, z09, z0d, z0e, z0p, z0q, z0s, z0t, z0w, z0x, z11, z1l, z3h, z4g, z4h, z4i, z4j, z4l, z4p, z4q, z4r, z4s, z4t, z4u, z4v, z4w, z4x, z4y, z53, Nat.reduceAdd, Nat.reduceSub, ↓reduceIte, hasBx35]
  refine ex_any (Al k _) (Al.ex (run_wakes jDk rfl (by omega) hro)) ?_
  rintro _ k0 ⟨hk0, hr0, rfl⟩
  have s0 := hk0.size
  simp (maxDischargeDepth := 16) only [z04, z08, z09, z0a, z0c, z0d, z0e, z0p, z0q, z0s, z0t, z0v, z0w, z0x, z0z, z10, z11, z13, z14, z15, z1l, z24, z2h, z3b, z3h, z4e, z4f, z4g, z4h, z4i, z4j, z4k, z4l, z4s, z4u, z4v, z50, z51, z5c, z7z, ↓reduceIte, hasBx36, tIntx3x102, tIntx102x3, bin_rem (show (24 : Int) ≠ 0 by decide), hj]
  refine ex_any (Al k _) (run_New (n := j) jDk (by omega) (by omega) hj1 (by omega)) ?_
  rintro _ k1 ⟨b, rfl, hb, hk1, hr1, d1⟩
  have s1 := hk1.size
  simp (maxDischargeDepth := 16) only [z04, z08, z09, z0a, z0c, z0d, z0e, z0p, z0q, z0s, z0t, z0v, z0w, z0x, z0z, z10, z11, z13, z1a, z1l, z2c, z2t, z3b, z3h, z4e, z4f, z4g, z4h, z4i, z4j, z4k, z4l, z4m, z4n, z4o, z4s, z4u, z4v, z5a, z5c, ↓reduceIte, hasBx41]
  refine ex_any (Al k _) (Al.ex (run_rNew (n := j) jRf (by omega) (by omega) (by omega))) ?_
  rintro _ k2 ⟨hk2, hr2, cm, rfl, rm⟩
  have s2 := hk2.size
  obtain ⟨u1, u2, rfl, hu1, hu2, -⟩ := R113_inv rm
  have ou1 := (R110).rone hu1 u1 (List.mem_singleton.2 rfl)
  have ou2 := (R111).rone hu2 u2 (List.mem_singleton.2 rfl)
  have r20 : (k2.ro ≤ k2.size) = True := by simp; omega
  simp (maxDischargeDepth := 16) only [z08, z09, z0d, z0e, z0p, z0q, z0s, z0t, z0u, z0v, z0w, z0z, z10, z1f, z1g, z1p, z1r, z1w, z1x, z2o, z2y, z2z, z34, z3b, z3p, z3q, z3v, z3w, z44, z45, z46, z49, z4c, z4e, z4f, z4g, z4h, z4i, z4p, z4q, z4r, z4z, z53, z5f, z72, evalC_block, Nat.reduceAdd, ↓reduceIte, Hp.wr, tLenx88, tSizex113, tZerox113, ou1, ou2, r20]
  refine loop_rule (Al k _) (fun m x h => ∃ (i : Nat) (D : DV) (S p : Nat → Prop) (u1 u2 : Value), m = l.length - i ∧ i ≤ l.length ∧ D.1.length = j ∧ Pair k h b k2.size S p u1 u2 D D ∧
    x.tmps.size = 99 ∧ x.defers = [] ∧ x.tmps.getD 0 undef = .int .i64 (j : Int) ∧ x.tmps.getD 5 undef = .pointer (some ⟨b, 0, none⟩) ∧ x.tmps.getD 7 undef = .pointer (some ⟨k2.size, 0, none⟩) ∧ x.tmps.getD 34 undef = .slice a l.length c ∧ x.tmps.getD 35 undef = .int .i64 (l.length : Int) ∧ x.tmps.getD 36 undef = .int .i64 (i : Int)) ?_ _ l.length _ _ ?_ ?_
  · intro m n' x h hI' ih
    obtain ⟨i, D, S, p, u1, u2, hm, hi, hDj, P, hxs, hxd, l0, l5, l7, l34, l35, l36⟩ := hI'
    obtain ⟨g, rfl⟩ : ∃ g : Nat → Value, x = { tmps := #[.int .i64 (j : Int), g 1, g 2, g 3, g 4, .pointer (some ⟨b, 0, none⟩), g 6, .pointer (some ⟨k2.size, 0, none⟩), g 8, g 9, g 10, g 11, g 12, g 13, g 14, g 15, g 16, g 17, g 18, g 19, g 20, g 21, g 22, g 23, g 24, g 25, g 26, g 27, g 28, g 29, g 30, g 31, g 32, g 33, .slice a l.length c, .int .i64 (l.length : Int), .int .i64 (i : Int), g 37, g 38, g 39, g 40, g 41, g 42, g 43, g 44, g 45, g 46, g 47, g 48, g 49, g 50, g 51, g 52, g 53, g 54, g 55, g 56, g 57, g 58, g 59, g 60, g 61, g 62, g 63, g 64, g 65, g 66, g 67, g 68, g 69, g 70, g 71, g 72, g 73, g 74, g 75, g 76, g 77, g 78, g 79, g 80, g 81, g 82, g 83, g 84, g 85, g 86, g 87, g 88, g 89, g 90, g 91, g 92, g 93, g 94, g 95, g 96, g 97, g 98], defers := [] } := ⟨fun k => x.tmps.getD k undef, (act_eta hxs hxd).trans (by simp only [unrollL, Nat.reduceAdd, Nat.zero_add, l0, l5, l7, l34, l35, l36])⟩; clear hxs hxd l0 l5 l7 l34 l35 l36
    have hs := P.keeps.size
    have wf := P.disk.wf
    have a7 := P.lt
    have hpro := P.ro
    rcases (show (i < l.length ∧ i ≠ 80) ∨ ((i < l.length ∧ i = 80) ∨ ¬ i < l.length) by omega) with ⟨hlt, h80⟩ | hex
    · have hlt' := lt_cast hlt
      have h80' : ((i : Int) = 80) = False := by simp; omega
      obtain ⟨q1, q2, q3⟩ := dec_meas hlt hm
      obtain ⟨z, hz⟩ : ∃ z, l[i]? = some z := ⟨_, List.getElem?_eq_getElem hlt⟩
      obtain ⟨b2, off2, _, cells2, ow2, part2, ee, hb2, hg2, -, hp2, hle2, hex2, -⟩ := elem_at (s := 5) rl hz rfl (by decide)
      cases ee
      have hp20 := hp2
      obtain ⟨w1, rfl, e1, e2, e3, e4, e5⟩ := R94_inv hp2
      have ow := (Rp.slice Rp.bool).rone e5 w1 (List.mem_singleton.2 rfl)
      have hgb := (P.keeps.get b2 hb2).trans hg2
      have hbb2 : b2 < h.size := by omega
      have hii : (0 ≤ (i : Int)) = True := by simp
      have w3 := i64_succ (i := i) (by omega)
      have rh0 : (h.ro ≤ h.size) = True := by simp; omega
      have sp64 : ∀ (cs : List Value), cs.length = 64 → ∀ l : List Value, l.length = 64 → splice l.toArray 0 cs = cs.toArray := fun cs h l hl => splice_full (by simp [h, hl])
      simp (maxDischargeDepth := 16) only [z04, z08, z09, z0a, z0b, z0c, z0d, z0e, z0p, z0q, z0s, z0t, z0u, z0v, z0w, z0x, z0z, z10, z11, z13, z18, z1e, z1f, z1g, z1l, z1v, z1w, z1x, z1z, z2b, z2d, z2o, z2u, z2x, z2y, z2z, z33, z34, z3a, z3b, z3h, z3p, z3v, z3w, z3x, z3y, z3z, z41, z43, z44, z45, z46, z49, z4c, z4e, z4f, z4g, z4h, z4i, z4j, z4k, z4l, z4p, z4q, z4r, z4s, z4u, z4v, z4z, z50, z51, z53, z5a, z5b, z5f, z72, evalC_block, Nat.reduceAdd, Nat.reduceSub, ↓reduceIte, Hp.row, Hp.wr, hasBx38, tElemx88, tPartx94, tSizex94, tZerox94, hlt', hii, hgb, ne_f hbb2, ne_f0 hbb2, lt_t hbb2, lt_t0 hbb2, hle2, hex2, Int.toNat_natCast, rh0, ow, h80']
      refine ex_ev (S := fun v h2 => v = .tuple #[.agg (deedS D z).2.1.toArray, .int .i64 (deedS D z).2.2] ∧ flatOk K98 (deedS D z).2.1 ∧ ∃ S2 : Nat → Prop, DiskAt S2 h2 b (deedS D z).1 ∧ (∀ c, S2 c → S c ∨ h.size < c) ∧ h.size < h2.size ∧ h2.ro = k.ro ∧ (∀ c, c < h.size → ¬ S c → h2.get c = h.get c) ∧ h2.get h.size = some (.cells #[.int .i64 z.1, .int .i64 z.2.1, .int .i64 z.2.2.1, .int .u8 z.2.2.2.1, w1] true)) (Al k _) (fun h1 hh1 => ?_) ?_
      · have s1' : h1.size = h.size + 1 := by rw [hh1]; simp only [Hp.size_setB, Hp.size_push]
        have r1' : h1.ro = h.ro := by rw [hh1]; simp only [Hp.ro_setB, Hp.ro_push]
        have k1' : Keeps h h1 := by rw [hh1]; exact (by repeat (first | assumption | exact Keeps.refl _ | refine Keeps.push ?_ _ | refine Keeps.set ?_ (by first | omega | (simp only [Hp.size_push, Hp.size_setB]; omega)) _))
        have g1' : h1.get h.size = some (.cells #[.int .i64 z.1, .int .i64 z.2.1, .int .i64 z.2.2.1, .int .u8 z.2.2.2.1, w1] true) := by rw [hh1, get_set_self]
        refine (run_does (N := N) (p := (· < k.size)) jDk jLw (by omega) (P.disk.keep k1' r1') (R94.mono hp20 (fun _ h => h) id ((P.keeps.trans k1').fr fun c hc => hc)) (fun c hc => ⟨by omega, fun hS => by have := P.new c hS; omega⟩)).mono ?_
        rintro v h2 ⟨rfl, st, hf⟩
        have c2 := st.2
        exact ⟨rfl, hf, _, st.1, fun c hc => by
          rcases hc with hc | hc
          · exact .inl hc
          · exact .inr (by omega), by have := c2.1; omega, by have := c2.2.1; omega, fun c hc hn => by rw [c2.2.2 c (by omega) hn, k1'.get c hc], (c2.2.2 _ (by omega) (fun hS => by have := (P.disk.own _ hS).2; omega)).trans g1'⟩
      rintro _ h2 ⟨rfl, hf, S2, d2, hS2, hs2, hr2', g2, gd⟩
      have l2 : (deedS D z).2.1.length = 64 := hf.len
      have l2' : 64 ≤ (deedS D z).2.1.length := by omega
      have t2 : (deedS D z).2.1.take 64 = (deedS D z).2.1 := List.take_of_length_le (by omega)
      have g27 : h2.get k2.size = some (.cells #[u1, u2, .int .i64 D.2.2.1, .int .i64 D.2.2.2.1, .bool D.2.2.2.2.1, .int .i64 D.2.2.2.2.2] true) := (g2 _ P.lt P.na).trans P.box
      have ou1 : oneC u1 = true := R113.rone P.md u1 (by simp [mdC])
      have ou2 : oneC u2 = true := R113.rone P.md u2 (by simp [mdC])
      have n27 : k2.size < h2.size := by omega
      have n2d : h.size < h2.size := by omega
      have r2 : (h2.ro ≤ h2.size) = True := by simp; omega
      simp (maxDischargeDepth := 16) only [z08, z09, z0d, z0e, z0p, z0q, z0s, z0t, z0u, z0v, z0x, z0z, z10, z11, z1a, z1e, z1f, z1g, z1l, z1v, z1w, z1x, z2o, z2t, z2x, z2y, z2z, z34, z35, z3b, z3h, z3x, z3y, z3z, z41, z43, z46, z49, z4c, z4e, z4f, z4g, z4h, z4i, z4j, z4k, z4l, z4m, z4n, z4o, z4p, z4q, z4r, z4s, z4u, z4v, z4z, z53, z72, Nat.reduceAdd, Nat.reduceSub, ↓reduceIte, Hp.row, Hp.wr, hasBx42, tPartx94, tPartx113, tSizex98, tZerox98, l2, r2, flat_all1 hf, sp64, g27, gd, ne_f n27, ne_f0 n27, lt_t n27, lt_t0 n27, ne_f n2d, ne_f0 n2d, lt_t n2d, lt_t0 n2d]
      refine ex_ev (S := fun v h4 => ∃ (cs' : List Value) (p' : Nat → Prop), v = .tuple #[.agg cs'.toArray, .agg (deedS D z).2.1.toArray, .int .i64 (deedS D z).2.2] ∧ R113.r false p' h4 cs' (deedS D z).1 ∧ (∀ c, p' c → (p c ∨ c < k.size) ∨ h2.size < c ∧ c < h4.size) ∧ Keeps h2 h4 ∧ h4.ro = k.ro ∧ h4.get h2.size = some (.cells (deedS D z).2.1.toArray true) ∧ h2.size < h4.size) (Al k _) (fun h3 hh3 => ?_) ?_
      · have s3 : h3.size = h2.size + 1 := by rw [hh3]; simp only [Hp.size_setB, Hp.size_push]
        have r3 : h3.ro = h2.ro := by rw [hh3]; simp only [Hp.ro_setB, Hp.ro_push]
        have k3 : Keeps h2 h3 := by rw [hh3]; exact (by repeat (first | assumption | exact Keeps.refl _ | refine Keeps.push ?_ _ | refine Keeps.set ?_ (by first | omega | (simp only [Hp.size_push, Hp.size_setB]; omega)) _))
        have g3 : h3.get h2.size = some (.cells (deedS D z).2.1.toArray true) := by rw [hh3, get_set_self]
        have old : ∀ c, c < h.size → ¬ S c → h3.get c = h.get c := fun c hc hn => by rw [k3.get c (by omega), g2 c hc hn]
        have rm3 : R113.r false (fun c => p c ∨ c < k.size) h3 [u1, u2, .int .i64 D.2.2.1, .int .i64 D.2.2.2.1, .bool D.2.2.2.2.1, .int .i64 D.2.2.2.2.2] D := R113.mono P.md (fun c hc => .inl hc) id (Fr.of fun c hc => old c (P.apart c hc).1 (P.apart c hc).2.1)
        have rd3 : R94.r false (fun c => p c ∨ c < k.size) h3 [.int .i64 z.1, .int .i64 z.2.1, .int .i64 z.2.2.1, .int .u8 z.2.2.2.1, w1] z := R94.mono hp20 (fun c hc => .inr hc) id (Fr.of fun c hc => by rw [old c (by omega) (fun hS => by have := P.new c hS; omega), P.keeps.get c hc])
        refine (Al.ex (run_models (N := N) jRf jLw (by omega) (by omega) rm3 wf rd3 (fun c hc => by
          rcases hc with hc | hc
          · have := (P.apart c hc).1; omega
          · omega))).mono ?_
        rintro v h4 ⟨hk4, hr4, cs', rfl, hR, -⟩
        have s4 := hk4.size
        exact ⟨cs', _, rfl, hR, fun c hc => by
          rcases hc with hc | hc
          · exact .inl hc
          · exact .inr ⟨by omega, hc.2⟩, k3.trans hk4, by omega, (hk4.get _ (by omega)).trans g3, by omega⟩
      rintro _ h4 ⟨cs', p', rfl, hR4, hp4, k4, r4, g4, s4⟩
      obtain ⟨y1, y2, rfl, -, -, -⟩ := R113_inv hR4
      have oy1 : oneC y1 = true := R113.rone hR4 y1 (by simp)
      have oy2 : oneC y2 = true := R113.rone hR4 y2 (by simp)
      have r40 : ∀ j, (h4.ro ≤ h4.size + j) = True := fun j => by simp; omega
      have r400 : (h4.ro ≤ h4.size) = True := by simp; omega
      have nb := neB hf
      simp (maxDischargeDepth := 16) only [z08, z09, z0d, z0e, z0p, z0q, z0r, z0s, z0t, z0u, z0v, z0w, z0x, z0z, z10, z11, z12, z13, z1a, z1e, z1f, z1g, z1l, z1v, z1w, z1x, z1y, z2c, z2o, z2t, z2x, z2y, z2z, z33, z34, z35, z37, z38, z39, z3b, z3h, z3p, z3q, z3v, z3w, z3x, z3y, z3z, z41, z43, z44, z45, z46, z49, z4a, z4c, z4d, z4e, z4f, z4g, z4h, z4i, z4j, z4k, z4l, z4m, z4n, z4o, z4p, z4q, z4r, z4s, z4u, z4v, z4z, z52, z53, z59, z5a, z5c, z5e, z5f, z72, Nat.reduceAdd, Nat.reduceSub, ↓reduceIte, yielded, Hp.row, Hp.wr, hasBx43, tPartx98, tPartx113, tSizex98, tSizex113, tZerox98, tZerox113, l2, t2, r40, r400, flat_all1 hf, sp64, g4, ne_f s4, ne_f0 s4, lt_t s4, lt_t0 s4, oy1, oy2, nb]
      refine ex_ev (S := fun v h6 => v = .bool true ∧ Keeps h4 h6 ∧ h6.ro = k.ro ∧ h6.get h4.size = some (.cells #[y1, y2, .int .i64 (deedS D z).1.2.2.1, .int .i64 (deedS D z).1.2.2.2.1, .bool (deedS D z).1.2.2.2.2.1, .int .i64 (deedS D z).1.2.2.2.2.2] true) ∧ h4.size < h6.size) (Al k _) (fun h5 hh5 => ?_) ?_
      · have s5 : h5.size = h4.size + 2 := by rw [hh5]; simp only [Hp.size_setB, Hp.size_push]
        have r5 : h5.ro = h4.ro := by rw [hh5]; simp only [Hp.ro_setB, Hp.ro_push]
        have k5 : Keeps h4 h5 := by rw [hh5]; exact (by repeat (first | assumption | exact Keeps.refl _ | refine Keeps.push ?_ _ | refine Keeps.set ?_ (by first | omega | (simp only [Hp.size_push, Hp.size_setB]; omega)) _))
        have g5 : h5.get h4.size = some (.cells #[y1, y2, .int .i64 (deedS D z).1.2.2.1, .int .i64 (deedS D z).1.2.2.2.1, .bool (deedS D z).1.2.2.2.2.1, .int .i64 (deedS D z).1.2.2.2.2.2] true) := by rw [hh5, get_set_ne (by omega), get_set_self]
        have p4 : ∀ c, p' c → c < h4.size := fun c hc => by
          rcases hp4 c hc with (hc | hc) | hc
          · have := (P.apart c hc).1; omega
          · omega
          · exact hc.2
        refine (Al.ex (run_is (N := N) jDk jLw (by omega) (d2.keep (k4.trans k5) (by omega)) (R113.mono hR4 (fun _ h => h) id (k5.fr p4)) (fun c hc => by have := p4 c hc; omega))).mono ?_
        rintro v h6 ⟨hk6, hr6, rfl⟩
        have := hk6.size
        exact ⟨rfl, k5.trans hk6, by omega, (hk6.get _ (by omega)).trans g5, by omega⟩
      rintro _ h6 ⟨rfl, k6, r6, g6, s6⟩
      have g67 := (k6.get k2.size (by omega)).trans ((k4.get k2.size (by omega)).trans g27)
      have n67 : k2.size < h6.size := by omega
      have r67 : (h6.ro ≤ k2.size) = True := by simp; omega
      simp (maxDischargeDepth := 16) only [z04, z08, z0a, z0c, z0d, z0e, z0h, z0k, z0p, z0q, z0r, z0s, z0t, z0u, z0v, z0w, z0z, z10, z12, z13, z14, z1e, z1f, z1v, z1w, z1x, z1y, z24, z2h, z2o, z2x, z2y, z3b, z3p, z3q, z3v, z3w, z3x, z3y, z3z, z41, z43, z44, z45, z46, z49, z4e, z4f, z4g, z4h, z4i, z4m, z4n, z4o, z4p, z4q, z4r, z4z, z52, z53, z59, z5c, z5e, z5f, z72, Nat.reduceAdd, Nat.reduceSub, ↓reduceIte, yielded, Hp.row, Hp.wr, tPartx113, tSizex113, g6, g67, ne_f s6, ne_f0 s6, lt_t s6, lt_t0 s6, ne_f n67, ne_f0 n67, lt_t n67, lt_t0 n67, r67, oy1, oy2, w3]
      have own2 := fun c hc => (d2.own c hc).2
      have na2 : ¬ S2 k2.size := fun hc => by
        rcases hS2 _ hc with hc | hc
        · exact P.na hc
        · omega
      have kk : k.size ≤ k2.size := P.ka
      refine ih (m - 1) _ _ q1 ⟨i + 1, (deedS D z).1, S2, p', y1, y2, q2, q3, by rw [deedS_len]; exact hDj, ⟨d2.mono (by simp only [Hp.size_setB]; omega) (by simp only [Hp.ro_setB]; omega) (fun c hc => ?_), fun c hc => ?_, ⟨by simp only [Hp.size_setB]; omega, fun c hc => ?_⟩, by simp only [Hp.ro_setB]; exact r6, kk, by simp only [Hp.size_setB]; omega, na2, get_set_self, R113.mono hR4 (fun _ h => h) id (Fr.of fun c hc => ?_), fun c hc => ?_⟩, rfl, rfl, rfl, rfl, rfl, rfl, rfl, rfl⟩
      · have hlt := own2 c hc
        rw [get_set_ne (by intro e; first | (rw [← e] at na2; exact na2 hc) | (rw [e] at na2; exact na2 hc)), k6.get c (by omega), k4.get c hlt]
      · rcases hS2 c hc with hc | hc
        · exact P.new c hc
        · omega
      · rw [get_set_ne (by omega), k6.get c (by omega), k4.get c (by omega), g2 c (by omega) (fun hS => by have := P.new c hS; omega), P.keeps.get c hc]
      · rcases hp4 c hc with (hc | hc) | hc
        · have h1 := P.apart c hc
          rw [get_set_ne h1.2.2, k6.get c (by omega)]
        · rw [get_set_ne (by omega), k6.get c (by omega)]
        · rw [get_set_ne (by omega), k6.get c (by omega)]
      · simp only [Hp.size_setB]
        rcases hp4 c hc with (hc | hc) | hc
        · have h1 := P.apart c hc
          exact ⟨by omega, fun hn => by
            rcases hS2 c hn with hn | hn
            · exact h1.2.1 hn
            · omega, h1.2.2⟩
        · exact ⟨by omega, fun hn => by
            rcases hS2 c hn with hn | hn
            · have := P.new c hn; omega
            · omega, by omega⟩
        · exact ⟨by omega, fun hn => by have := own2 c hn; omega, by omega⟩
    · obtain ⟨x1, x2, ex, hx1, hx2, -⟩ := R113_inv P.md
      simp only [mdC, List.cons.injEq, and_true] at ex
      obtain ⟨rfl, rfl⟩ := ex
      obtain ⟨ax, cx, rfl, -, -⟩ := slice_form hx2
      have ou1 : oneC u1 = true := R113.rone P.md u1 (by simp [mdC])
      have g7 : h.get k2.size = some (.cells #[u1, .slice ax D.2.1.length cx, .int .i64 D.2.2.1, .int .i64 D.2.2.2.1, .bool D.2.2.2.2.1, .int .i64 D.2.2.2.2.2] true) := P.box
      have hlr := wf.rows
      rcases hex with ⟨hlt, rfl⟩ | hlt
      case' inl =>
        have hlt' := lt_cast hlt
        have h80' : (((80 : Nat) : Int) = 80) = True := by simp
        obtain ⟨z, hz⟩ : ∃ z, l[80]? = some z := ⟨_, List.getElem?_eq_getElem hlt⟩
        obtain ⟨b2, off2, _, cells2, ow2, part2, ee, hb2, hg2, -, hp2, hle2, hex2, -⟩ := elem_at (s := 5) rl hz rfl (by decide)
        cases ee
        obtain ⟨w1, rfl, e1, e2, e3, e4, e5⟩ := R94_inv hp2
        have ow := (Rp.slice Rp.bool).rone e5 w1 (List.mem_singleton.2 rfl)
        have hgb := (P.keeps.get b2 hb2).trans hg2
        have hbb2 : b2 < h.size := by omega
        have hii : (0 ≤ ((80 : Nat) : Int)) = True := by simp
        have rh0 : (h.ro ≤ h.size) = True := by simp; omega
        simp (maxDischargeDepth := 16) only [z04, z06, z08, z09, z0a, z0b, z0d, z0e, z0g, z0j, z0m, z0p, z0q, z0s, z0t, z0u, z0v, z0w, z0x, z0z, z10, z11, z13, z16, z18, z1e, z1f, z1g, z1l, z1p, z1r, z1v, z1w, z1x, z1z, z2b, z2d, z2o, z2u, z2w, z2x, z2y, z2z, z34, z35, z3a, z3b, z3h, z3p, z3v, z3w, z44, z45, z46, z49, z4c, z4e, z4f, z4g, z4h, z4i, z4j, z4k, z4l, z4m, z4n, z4o, z4p, z4q, z4r, z4s, z4u, z4v, z4z, z50, z51, z53, z5a, z5f, z72, evalC_block, Nat.reduceEqDiff, Nat.reduceAdd, Nat.reduceMul, ↓reduceIte, Hp.cell, Hp.row, Hp.wr, hasBx45, tElemx88, tFieldAx113x1, tLenx111, tPartx94, tPartx111, tSizex94, tZerox94, hlt', hii, hgb, ne_f hbb2, ne_f0 hbb2, lt_t hbb2, lt_t0 hbb2, hle2, hex2, Int.toNat_natCast, rh0, ow, h80', g7, ne_f a7, ne_f0 a7, lt_t a7, lt_t0 a7]
      case' inr =>
        have hlt' := nlt_cast hlt
        simp (maxDischargeDepth := 16) only [z06, z08, z09, z0a, z0c, z0d, z0e, z0g, z0j, z0m, z0p, z0q, z0s, z0t, z0v, z0x, z0z, z10, z13, z16, z1e, z1l, z1p, z1r, z1v, z2d, z2w, z2x, z3b, z3h, z4e, z4f, z4g, z4h, z4i, z4j, z4k, z4l, z4m, z4n, z4o, z4s, z4u, z4v, z50, z51, z53, z5b, ↓reduceIte, Hp.cell, hasBx45, tFieldAx113x1, tLenx111, tPartx111, hlt', g7, ne_f a7, ne_f0 a7, lt_t a7, lt_t0 a7]
      all_goals
        refine ex_ev (S := fun v h1 => ∃ q, OwnC Rp.bool h1 v (some q) (List.replicate D.2.1.length true) ∧ h.size ≤ q ∧ q < h1.size ∧ Keeps h h1 ∧ h1.ro = h.ro) (Al k _) (fun h0 hh0 => ?_) ?_
        case' refine_1 =>
          have kh : Keeps h h0 := by rw [hh0]; exact (by repeat (first | assumption | exact Keeps.refl _ | refine Keeps.push ?_ _ | refine Keeps.set ?_ (by first | omega | (simp only [Hp.size_push, Hp.size_setB]; omega)) _))
          have rh : h0.ro = h.ro := by rw [hh0] <;> simp only [Hp.ro_setB, Hp.ro_push]
          have sh := kh.size
          refine (Al.ex (run_rAll (N := N) (n := D.2.1.length) jRf (by omega) (by omega) (by omega))).mono ?_
          rintro v h1 ⟨hk1, hr1, q, o, hq1, hq2⟩
          exact ⟨q, o, by omega, hq2, kh.trans hk1, by omega⟩
        case' refine_2 =>
          rintro v h1 ⟨q, o, hq1, hq2, kh1, rh1⟩
          simp (maxDischargeDepth := 16) only [z0q, z0s, z0t, z0v, z0x, z1l, z3b, z3h, z4e, z4f, z4g, z4h, z4i, z4j, z4k, z4l, z4s, z4u, z4v, ↓reduceIte, hasBx44]
          refine ex_any (Al k _) (run_Crash (N := N) (p := fun c => h.size ≤ c ∧ c < h1.size) jDk (by omega) (P.disk.keep kh1 rh1) (ownFr o (fun c hc => by cases hc; exact ⟨hq1, hq2⟩)) (fun c hc => ⟨hc.2, fun hS => by have := (P.disk.own c hS).2; omega⟩)) ?_
          rintro _ h2 ⟨rfl, st⟩
          have P2 := P.step kh1 rh1 st
          simp (maxDischargeDepth := 16) only [z04, z08, z09, z0a, z0c, z0d, z0e, z0p, z0q, z0s, z0t, z0v, z0w, z0z, z10, z13, z2c, z3b, z4e, z4f, z4g, z4h, z4i, z5a, z5c, evalC_block]
          refine loop_rule (Al k _) (fun m x h => ∃ (i : Nat) (o : Int) (S : Nat → Prop), m = j - i ∧ i ≤ j ∧ Pair k h b k2.size S p u1 (.slice ax D.2.1.length cx) ((crashS D (List.replicate D.2.1.length true)).1, [], -1, -1, false, o) D ∧
            x.tmps.size = 99 ∧ x.defers = [] ∧ x.tmps.getD 5 undef = .pointer (some ⟨b, 0, none⟩) ∧ x.tmps.getD 7 undef = .pointer (some ⟨k2.size, 0, none⟩) ∧ x.tmps.getD 79 undef = .int .i64 (j : Int) ∧ x.tmps.getD 80 undef = .int .i64 (i : Int)) ?_ _ j _ _ ?_ ?_
          · clear ih P g7 hlt hlt' P2 st kh1 rh1 hq1 hq2 o
            intro m n' x h hI' ih
            obtain ⟨i, o, S, hm, hi, P, hxs, hxd, l5, l7, l79, l80⟩ := hI'
            obtain ⟨g, rfl⟩ : ∃ g : Nat → Value, x = { tmps := #[g 0, g 1, g 2, g 3, g 4, .pointer (some ⟨b, 0, none⟩), g 6, .pointer (some ⟨k2.size, 0, none⟩), g 8, g 9, g 10, g 11, g 12, g 13, g 14, g 15, g 16, g 17, g 18, g 19, g 20, g 21, g 22, g 23, g 24, g 25, g 26, g 27, g 28, g 29, g 30, g 31, g 32, g 33, g 34, g 35, g 36, g 37, g 38, g 39, g 40, g 41, g 42, g 43, g 44, g 45, g 46, g 47, g 48, g 49, g 50, g 51, g 52, g 53, g 54, g 55, g 56, g 57, g 58, g 59, g 60, g 61, g 62, g 63, g 64, g 65, g 66, g 67, g 68, g 69, g 70, g 71, g 72, g 73, g 74, g 75, g 76, g 77, g 78, .int .i64 (j : Int), .int .i64 (i : Int), g 81, g 82, g 83, g 84, g 85, g 86, g 87, g 88, g 89, g 90, g 91, g 92, g 93, g 94, g 95, g 96, g 97, g 98], defers := [] } := ⟨fun k => x.tmps.getD k undef, (act_eta hxs hxd).trans (by simp only [unrollL, Nat.reduceAdd, Nat.zero_add, l5, l7, l79, l80])⟩; clear hxs hxd l5 l7 l79 l80
            have hs := P.keeps.size
            have hpro := P.ro
            have hplt := P.lt
            by_cases hlt : i < j
            · have hlt' := lt_cast hlt
              obtain ⟨q1, q2, q3⟩ := dec_meas hlt hm
              have w3 := i64_succ (i := i) (by omega)
              have hiD : i < D.1.length := by omega
              have hcl : (crashS D (List.replicate D.2.1.length true)).1.length = D.1.length := by simp only [crashS, downL_len]
              obtain ⟨o', er⟩ := read_plain (P := (crashS D (List.replicate D.2.1.length true)).1) (a := -1) (o := o) (i := i) (by omega)
              rw [crash_show wf hiD] at er
              simp (maxDischargeDepth := 16) only [z04, z08, z09, z0a, z0b, z0d, z0e, z0p, z0q, z0s, z0t, z0v, z0x, z0z, z10, z11, z13, z1l, z2d, z3b, z3h, z4e, z4f, z4g, z4h, z4i, z4j, z4k, z4l, z4s, z4u, z4v, z5a, evalC_block, ↓reduceIte, hasBx46, hlt']
              refine ex_any (Al k _) (run_Read (N := N) (i := (i : Int)) jDk.Read jDk.act jDk.power jDk.burns jDk.Read1 jDk.held jDk.IndexFunc jDk.held1 (by omega) P.disk) ?_
              rw [er]
              rintro _ h3 ⟨rfl, d3, c3, hf3⟩
              have P3 := P.step (Keeps.refl _) rfl (Step.of d3 c3 (by omega))
              have s3 := c3.1
              have hpro3 := P3.ro
              have rh3 : (h3.ro ≤ h3.size) = True := by simp; omega
              have l3 : (showS D i).length = 64 := hf3.len
              have l3' : 64 ≤ (showS D i).length := by omega
              have t3 : (showS D i).take 64 = showS D i := List.take_of_length_le (by omega)
              have sp64 : ∀ (cs : List Value), cs.length = 64 → ∀ l : List Value, l.length = 64 → splice l.toArray 0 cs = cs.toArray := fun cs h l hl => splice_full (by simp [h, hl])
              simp (maxDischargeDepth := 16) only [z09, z0d, z0e, z0p, z0q, z0s, z0t, z0u, z0v, z0z, z10, z11, z1a, z1f, z1g, z1w, z1x, z2o, z2t, z2y, z2z, z34, z3b, z46, z49, z4c, z4e, z4f, z4g, z4h, z4i, z4m, z4n, z4o, z4p, z4q, z4r, z4z, z53, z72, z7t, Nat.reduceAdd, ↓reduceIte, Hp.wr, tSizex98, tZerox98, rh3, l3, flat_all1 hf3, sp64]
              refine evalDraw_heap (Al k _) fun h4 hh4 => ?_
              have s4 : h4.size = h3.size + 1 := by rw [hh4]; simp only [Hp.size_setB, Hp.size_push]
              have r4 : h4.ro = h3.ro := by rw [hh4]; simp only [Hp.ro_setB, Hp.ro_push]
              have k4 : Keeps h3 h4 := by rw [hh4]; exact (by repeat (first | assumption | exact Keeps.refl _ | refine Keeps.push ?_ _ | refine Keeps.set ?_ (by first | omega | (simp only [Hp.size_push, Hp.size_setB]; omega)) _))
              have g4 : h4.get h3.size = some (.cells (showS D i).toArray true) := by rw [hh4, get_set_self]
              have P4 := P3.keep k4 r4
              clear hh4
              have a4 := P4.lt
              have n4 : h3.size < h4.size := by omega
              have g7 : h4.get k2.size = some (.cells #[u1, .slice ax D.2.1.length cx, .int .i64 D.2.2.1, .int .i64 D.2.2.2.1, .bool D.2.2.2.2.1, .int .i64 D.2.2.2.2.2] true) := P4.box
              have vk : ∀ c ∈ mdC u1 (.slice ax D.2.1.length cx) D, ∀ kept bits, vokB (allow h4.size kept bits) c = true := fun c hc kept bits => vb_old (vin_mono (fun b hb => (P4.apart b hb).1) (R113.rvin P4.md c hc))
              have vk1 := vk u1 (by simp [mdC])
              have vk2 := vk (.slice ax D.2.1.length cx) (by simp [mdC])
              have vaf := fun p => all_flat (p := p) hf3
              have ne4 : (k2.size = h3.size) = False := by simp; have := P3.lt; omega
              have nb := neB hf3
              rw [evalDraw_modes _ _ [(0, 0, 1), (0, 1, 3), (0, 3, 7), (3, 7, 15), (2, 7, 23), (0, 7, 39), (5, 17, 119), (0, 127, 255), (0, 255, 511)] (by kernel_rfl)]
              simp (maxDischargeDepth := 16) only [z0t, z0v, z0w, z0x, z0z, z10, z13, z1e, z1l, z1v, z2c, z2x, z3b, z3h, z3x, z3y, z3z, z41, z43, z44, z45, z46, z4e, z4f, z4g, z4h, z4i, z4j, z4k, z4l, z4m, z4n, z4o, z4p, z4q, z4r, z4s, z4u, z4v, z4z, z52, z53, z5a, z5c, z5e, z5f, z5j, z5l, z5u, z5y, z61, z62, z63, z6d, z6g, z6t, z6v, z6x, z70, z71, z8f, z8h, z8i, z8k, z8l, z8m, z8n, z8o, z8p, z8q, Nat.reduceEqDiff, Nat.reduceAdd, Nat.reduceSub, ↓reduceIte, Nat.reduceDiv, Nat.reduceMod, yielded, keepR, Hp.row, hasBx47, tPartx98, tPartx113, g4, g7, ne_f n4, ne_f0 n4, lt_t n4, lt_t0 n4, ne_f a4, ne_f0 a4, lt_t a4, lt_t0 a4, vk1, vk2, vaf, l3', t3]
              have sh5 : (h4.setB h3.size none).size = h4.size := by simp only [Hp.size_setB]
              have kn : ∀ c, c < h3.size → (h4.setB h3.size none).get c = h3.get c := fun c hc => by rw [get_set_ne (by omega), k4.get c hc]
              refine ex_kdh (Al k _) (Al.ex (run_rShows (N := N) (D := D) jRf (by omega) (by simp only [Hp.size_setB, Hp.ro_setB]; omega) (R113.mono P3.md (fun _ h => h) id (Fr.of fun c hc => kn c (P3.apart c hc).1)) (fun c hc => by have := (P3.apart c hc).1; rw [sh5]; omega) wf hiD)) (fun v k' h => by have := h.1.size; rw [sh5] at this; exact this) (fun v k' h => by rw [h.2.2.1]; exact vin_agg (vin_flatOk h.2.2.2)) (by decide) ?_
              rintro _ h5 ⟨hk5, hr5, rfl, hf5⟩
              have s5 := hk5.size
              rw [sh5] at s5
              simp only [Hp.ro_setB] at hr5
              have n5 : h3.size < h5.size := by omega
              simp (maxDischargeDepth := 16) only [z04, z08, z0a, z0c, z0d, z0e, z0h, z0k, z0p, z0q, z0s, z0t, z0v, z0w, z0z, z10, z12, z13, z1y, z24, z3b, z4e, z4f, z4g, z4h, z4i, z4m, z4n, z4o, z52, z59, z5e, z5j, z5t, z5u, z5y, z63, z8s, z8t, Nat.reduceAdd, ↓reduceIte, yielded, g4, ne_f n4, ne_f0 n4, lt_t n4, lt_t0 n4, ne_f n5, ne_f0 n5, lt_t n5, lt_t0 n5, nb, w3]
              refine ih (m - 1) _ _ q1 ⟨i + 1, o', _, q2, q3, P3.keep ⟨by simp only [Hp.size_setB]; omega, fun c hc => ?_⟩ (by simp only [Hp.ro_setB]; omega), rfl, rfl, rfl, rfl, rfl, rfl⟩
              rw [get_set_ne (by omega), hk5.get c (by rw [sh5]; omega), kn c hc]
            · have hlt' := nlt_cast hlt
              simp (maxDischargeDepth := 16) only [z05, z06, z08, z09, z0a, z0c, z0d, z0e, z0g, z0j, z0m, z0o, z0p, z0q, z0s, z0t, z0v, z0w, z0z, z11, z13, z2d, z3b, z3c, z3f, z4e, z4f, z4g, z4h, z4i, z4z, z5b, ↓reduceIte, hlt']
              exact Al.done P.keeps P.ro rfl
          · omega
          · exact ⟨0, _, _, by omega, by omega, P2, rfl, rfl, rfl, rfl, rfl, rfl⟩
  · omega
  · have kp : Keeps k ((k2.push (some (.cells (mdC u1 u2 (newS j)).toArray true)))) := ((hk0.trans hk1).trans hk2).trans (by repeat (first | assumption | exact Keeps.refl _ | refine Keeps.push ?_ _ | refine Keeps.set ?_ (by first | omega | (simp only [Hp.size_push, Hp.size_setB]; omega)) _))
    refine ⟨0, newS j, _, fresh k1 k2, u1, u2, by omega, by omega, by simp [newS], ⟨d1.keep (hk2.trans (by repeat (first | assumption | exact Keeps.refl _ | refine Keeps.push ?_ _ | refine Keeps.set ?_ (by first | omega | (simp only [Hp.size_push, Hp.size_setB]; omega)) _))) (by simp only [Hp.ro_setB, Hp.ro_push]; exact hr2), fun c hc => by have := hc.1; omega, ?_, by simp only [Hp.ro_setB, Hp.ro_push]; omega, by omega, by simp only [Hp.size_setB, Hp.size_push]; omega, fun h => by have := h.2; omega, get_set_self, ?_, fun c hc => ⟨by have := hc.2; simp only [Hp.size_setB, Hp.size_push]; omega, fun h => by have := hc.1; have := h.2; omega, by have := hc.2; omega⟩⟩, rfl, rfl, rfl, rfl, rfl, rfl, rfl, rfl⟩
    · exact ((hk0.trans hk1).trans hk2).trans (by repeat (first | assumption | exact Keeps.refl _ | refine Keeps.push ?_ _ | refine Keeps.set ?_ (by first | omega | (simp only [Hp.size_push, Hp.size_setB]; omega)) _))
    · exact R113.mono rm (fun _ h => h) id (Keeps.fr (h := k2) (by repeat (first | assumption | exact Keeps.refl _ | refine Keeps.push ?_ _ | refine Keeps.set ?_ (by first | omega | (simp only [Hp.size_push, Hp.size_setB]; omega)) _)) fun c hc => hc.2)
end
end Go.Abs.B1
