/- What stands on the plate stays; what is synced is lost by no crash. -/
import Derived.Test.YtnlhfcipapbfmaaDoorDe38
import Derived.Test.YtnlhfcipapbfmaaDoorDe39
import Derived.Test.YtnlhfcipapbfmaaDoorAbsE
namespace Go.Abs.B1d
open Go.Proofs
set_option maxRecDepth 10000
set_option maxHeartbeats 8000000
set_option linter.all false
section
variable {k : Hp}
/-- All blocks of a disk. -/
theorem DiskAt.blocks {S : Nat → Prop} {b : Nat} {D : DV} (d : DiskAt S k b D) : (∀ y ∈ D.1, flatOk K29 y) ∧ ∀ r ∈ D.2.1, flatOk K29 r.2 := by
  obtain ⟨pb, pc, bv, qb, g1, g2, a1, a2, a3, a4, a5, a6, a7, a8, a9, a10⟩ := d
  have hb := DiskAt.buf (pb := pb) a2
  refine ⟨fun y hy => ?_, fun x hx => ?_⟩
  · obtain ⟨n, hn⟩ := List.getElem?_of_mem hy
    obtain ⟨part, p1, ⟨rfl, p2⟩, p3, p4, -⟩ := a1.elem (s := 64) hn rfl
    exact p2
  · obtain ⟨j, hj⟩ := List.getElem?_of_mem hx
    obtain ⟨bb, off, _, cells, ow, part', ee, hb0, hg', -, hp', hle, hex, hcell⟩ := elem_at (s := 65) hb hj rfl (by decide)
    obtain ⟨l, rfl, -, rfl, t2⟩ := R62_inv hp'
    exact t2
theorem down_all {Q : List Value → Prop} (f : Nat → Bool) : ∀ (rs : List T62) (P : List (List Value)) (n : Nat), (∀ y ∈ P, Q y) → (∀ r ∈ rs, Q r.2) → ∀ y ∈ downL f P rs n, Q y
  | [], P, n, h, _ => h
  | r :: rs, P, n, h, g => by
    rw [downL]
    refine down_all f rs _ (n + 1) (fun y hy => ?_) (fun s hs => g s (List.mem_cons_of_mem _ hs))
    split at hy
    · rcases List.mem_or_eq_of_mem_set hy with hy | hy
      · exact h y hy
      · subst hy; exact g r List.mem_cons_self
    · exact h y hy
theorem DiskAt.crashed {S : Nat → Prop} {b : Nat} {D : DV} (d : DiskAt S k b D) (ks : List Bool) : ∀ y ∈ (crashS D ks).1, flatOk K29 y := down_all _ _ _ _ d.blocks.1 d.blocks.2
theorem eqO {x : List Value} (h : flatOk (KB 896) x) : aBin Tryd.prog .eql 30 (.agg x.toArray) (.agg x.toArray) = some (.bool true) :=
  (bin_eql_agg (P := Tryd.prog) (t := 30) (k := KB 896) (b := true) (by kernel_rfl) (by kernel_rfl) (by kernel_rfl) (cellsEq_self h (fun s hs => List.eq_of_mem_replicate hs))).1
/-- A block aside of the disk. -/
def Aside (S : Nat → Prop) (h : Hp) (c : Nat) (cells : Array Value) : Prop := ¬ S c ∧ c < h.size ∧ h.get c = some (.cells cells true)
theorem Aside.keep {S : Nat → Prop} {h h1 : Hp} {c : Nat} {cells : Array Value} (x : Aside S h c cells) (hk : Keeps h h1) : Aside S h1 c cells := ⟨x.1, by have := x.2.1; have := hk.size; omega, (hk.get _ x.2.1).trans x.2.2⟩
theorem Aside.step {S : Nat → Prop} {h h1 h2 : Hp} {b c : Nat} {E : DV} {cells : Array Value} (x : Aside S h c cells) (hk : Keeps h h1) (st : Step S h1 h2 b E) : Aside (grow S h1 h2) h2 c cells := by
  have h0 := x.2.1
  have s1 := hk.size
  have s2 := st.2.1
  refine ⟨fun hc => ?_, by omega, (st.2.2.2 c (by omega) x.1).trans ((hk.get _ h0).trans x.2.2)⟩
  rcases hc with hc | hc
  · exact x.1 hc
  · omega
/-- Which sectors were written. -/
def wC (W : Nat → Bool) : Array Value := ((List.range 14).map fun i => Value.bool (W i)).toArray
theorem wC_size (W : Nat → Bool) : (wC W).size = 14 := by simp [wC]
theorem wC_get (W : Nat → Bool) {i : Nat} (h : i < 14) : (wC W)[i]? = some (.bool (W i)) := by
  simp [wC, h]
theorem wC_zero : wC (fun _ => false) = #[.bool false, .bool false, .bool false, .bool false, .bool false, .bool false, .bool false, .bool false, .bool false, .bool false, .bool false, .bool false, .bool false, .bool false] := rfl
theorem wC_set (W : Nat → Bool) {n : Nat} (h : n < 14) : (wC W).setIfInBounds (n * 1) (.bool true) = wC (fun i => W i || i == n) := by
  rw [Nat.mul_one]
  apply Array.ext_getElem?
  intro j
  rw [Array.getElem?_setIfInBounds]
  by_cases hj : j < 14
  · rw [wC_get _ hj, wC_get _ hj]
    by_cases hn : n = j
    · subst hn; rw [if_pos rfl, wC_size, if_pos h]; simp
    · rw [if_neg hn]
      have : (j == n) = false := by simp; omega
      rw [this, Bool.or_false]
  · rw [if_neg (by omega), Array.getElem?_eq_none (by rw [wC_size]; omega), Array.getElem?_eq_none (by rw [wC_size]; omega)]
/-- The disk under play: made behind k. -/
structure Two (k h : Hp) (b : Nat) (S : Nat → Prop) (D : DV) : Prop where
  disk : DiskAt S h b D
  new : ∀ c, S c → k.size ≤ c
  keeps : Keeps k h
  ro : h.ro = k.ro
theorem Two.step {h h1 h2 : Hp} {b : Nat} {S : Nat → Prop} {D E : DV} (P : Two k h b S D) (hk : Keeps h h1) (hr : h1.ro = h.ro) (st : Step S h1 h2 b E) : Two k h2 b (grow S h1 h2) E := by
  obtain ⟨f1, f2⟩ := st.fresh P.new (P.keeps.trans hk)
  exact ⟨st.1, f1, f2, by have := st.2.2.1; have := P.ro; omega⟩
theorem Two.keep {h h1 : Hp} {b : Nat} {S : Nat → Prop} {D : DV} (P : Two k h b S D) (hk : Keeps h h1) (hr : h1.ro = h.ro) : Two k h1 b S D :=
  ⟨P.disk.keep hk hr, P.new, P.keeps.trans hk, hr.trans P.ro⟩
theorem run4 {vl vm vk va : Value} {l more : List T42} {ks : List Bool} {oa : Bool} (rl : R22.r false (· < k.size) k [vl] l) (rm : R22.r false (· < k.size) k [vm] more) (rk : (Rp.slice Rp.bool).r false (· < k.size) k [vk] ks) (hro : k.ro ≤ k.size)
    (hg : k.get 0 = some (.cells #[va] oa)) (hg0 : 0 < k.size) (ra : (Rp.slice Rp.bool).r false (· < k.size) k [va] (List.replicate 8 true)) :
    ∃ N, Al k (fun _ w => w = .bool true) (evalV Tryd.prog I0 N (.fn 4) #[vl, vm, vk] k) := by
  refine ⟨l.length + more.length + 400 + 1, ?_⟩
  generalize hN : l.length + more.length + 400 = N
  generalize hal : List.replicate 8 true = al at ra
  have oa1 := (Rp.slice Rp.bool).rone ra va (List.mem_singleton.2 rfl)
  obtain ⟨aa, ca, rfl, -, -⟩ := slice_form ra
  obtain ⟨am, cm, rfl, -, hlm⟩ := slice_form rm
  unfold capOpen at hlm
  have h0 : I0 4 = none := rfl
  rw [evalV_call (P := Tryd.prog) (intr := I0) (f := 4) (m := 136) (rs := #[.tmp 6]) h0 Tryd.func4 rfl rfl rfl]
  simp (maxDischargeDepth := 16) only [z08, z09, z0d, z0e, z0p, z0q, z0s, z0t, z0w, z0x, z11, z1l, z3h, z4g, z4h, z4i, z4j, z4l, z4p, z4q, z4r, z4s, z4t, z4u, z4v, z4w, z4x, z4y, z53, Nat.reduceAdd, Nat.reduceSub, ↓reduceIte, hasBx6]
  refine ex_any (Al k _) (Al.ex (run_wakes jDk rfl (by omega) hro)) ?_
  rintro _ k0 ⟨hk0, hr0, rfl⟩
  have s0 := hk0.size
  simp (maxDischargeDepth := 16) only [z04, z08, z09, z0a, z0c, z0d, z0e, z0p, z0q, z0s, z0t, z0v, z0x, z0z, z10, z14, z1l, z2h, z3b, z3h, z4e, z4f, z4g, z4h, z4i, z4j, z4k, z4l, z4s, z4u, z4v, z5c, ↓reduceIte, hasBx7]
  refine ex_any (Al k _) (Al.ex (run_played (N := N) (p := (· < k.size)) (by omega) (R22.mono rl (fun _ h => h) id (hk0.fr fun c hc => hc)) (fun c hc => by omega) (by omega))) ?_
  rintro _ k1 ⟨hk1, hr1, b, S, D, rfl, d, hS, h14⟩
  have s1 := hk1.size
  have kk1 := hk0.trans hk1
  have g1 := (kk1.get 0 hg0).trans hg
  have n1 : 0 < k1.size := by omega
  simp (maxDischargeDepth := 16) only [z08, z09, z0d, z0e, z0p, z0q, z0r, z0s, z0t, z0v, z0x, z0y, z0z, z10, z11, z14, z1a, z1e, z1l, z1v, z2h, z2t, z2x, z3b, z3h, z4e, z4f, z4g, z4h, z4i, z4j, z4k, z4l, z4m, z4n, z4o, z4s, z4u, z4v, z52, z5c, z5e, ↓reduceIte, yielded, Hp.cell, hasBx10, tPartx23, g1, ne_f n1, ne_f0 n1, lt_t n1, lt_t0 n1]
  refine ex_any (Al k _) (run_Crash (N := N) (p := (· < k.size)) jDk (by omega) d ((Rp.slice Rp.bool).mono ra (fun _ h => h) id (kk1.fr fun c hc => hc)) (fun c hc => ⟨by omega, fun hn => by have := hS c hn; omega⟩)) ?_
  rintro _ k2 ⟨rfl, st2⟩
  have P1 : Two k k1 b S D := ⟨d, fun c hc => by have := hS c hc; omega, kk1, by omega⟩
  have P2 := P1.step (Keeps.refl _) rfl st2
  generalize grow S k1 k2 = S2 at P2
  have L2 : (crashS D al).1.length = 14 := by simp only [crashS, downL_len]; exact h14
  have hrow : (crashS D al).2.1 = [] := rfl
  have hpl : (crashS (crashS D al) []).1 = (crashS D al).1 := rfl
  generalize hE2 : crashS D al = E2 at *
  clear hE2 st2 P1 d hS g1 n1 s1 kk1 hk1 hr1
  simp (maxDischargeDepth := 16) only [z04, z08, z09, z0a, z0c, z0d, z0e, z0p, z0q, z0r, z0s, z0t, z0v, z0w, z0x, z0z, z10, z12, z13, z1l, z1y, z2c, z3b, z3h, z4e, z4f, z4g, z4h, z4i, z4j, z4k, z4l, z4m, z4n, z4o, z4s, z4u, z4v, z52, z59, z5a, z5c, z5e, ↓reduceIte, yielded, hasBx8]
  refine ex_any (Al k _) (Al.ex (run_shown (N := N) (p := nop) (ks := []) P2.disk L2 (ownFr OwnC.nil (fun c h => by cases h)) (fun c hc => hc.elim) (by omega))) ?_
  rintro _ k3 ⟨hk3, hr3, rfl, ls, os, fs⟩
  have P3 := P2.keep hk3 hr3
  have hb3 := P3.disk.crashed []
  have hro3 := P3.ro
  have hks3 := P3.keeps.size
  have r30 : (k3.ro ≤ k3.size) = True := by simp; omega
  have r31 : ∀ j, (k3.ro ≤ k3.size + j) = True := fun j => by simp; omega
  have ls' : 896 ≤ (shownS E2 []).length := by omega
  have ts : (shownS E2 []).take 896 = shownS E2 [] := List.take_of_length_le (by omega)
  have zsz := zero30_size
  have spz : splice zero30 0 (shownS E2 []) = (shownS E2 []).toArray := splice_full (by rw [zsz, ls])
  simp (maxDischargeDepth := 16) only [z04, z08, z09, z0a, z0c, z0d, z0e, z0p, z0q, z0s, z0t, z0u, z0v, z0w, z0z, z10, z11, z14, z1a, z1b, z1f, z1g, z1p, z1r, z1w, z1x, z2h, z2o, z2t, z2y, z2z, z34, z3b, z3q, z3v, z3w, z44, z45, z46, z49, z4a, z4b, z4c, z4d, z4e, z4f, z4g, z4h, z4i, z4j, z4l, z4m, z4n, z4o, z4p, z4q, z4r, z4z, z50, z51, z53, z5c, z5f, z72, z80, z81, evalC_block, Nat.reduceAdd, ↓reduceIte, Hp.wr, tBuildOkx40, tLenx22, tSizex30, tSizex40, tZerox30, tZerox40, r30, r31, ls, os, zsz, spz]
  have stay0 : Stay E2.1 (fun _ => false) E2 := ⟨fun i _ => rfl, fun r hr => by rw [hrow] at hr; cases hr⟩
  have ok := (Rp.slice Rp.bool).rone rk vk (List.mem_singleton.2 rfl)
  obtain ⟨ak, ck, rfl, -, -⟩ := slice_form rk
  obtain ⟨u30, hsl⟩ := slice_front (P := Tryd.prog) (e := Rp.bool) (t := 23) (hh := min ks.length 30) (hiv := some (.int .i64 (min (ks.length : Int) 30))) rk (by kernel_rfl) (by decide) ⟨.i64, by congr 1; omega⟩ (by omega)
  generalize ks.take (min ks.length 30) = k30 at hsl
  refine loop_rule (Al k _) (fun m x h => ∃ (i : Nat) (D : DV) (S : Nat → Prop) (W : Nat → Bool), m = more.length - i ∧ i ≤ more.length ∧ D.1.length = 14 ∧ Two k h b S D ∧ Stay E2.1 W D ∧ Aside S h k3.size (shownS E2 []).toArray ∧ Aside S h (k3.size + 1) (wC W) ∧
    x.tmps.size = 136 ∧ x.defers = [] ∧ x.tmps.getD 2 undef = .slice ak ks.length ck ∧ x.tmps.getD 7 undef = .pointer (some ⟨b, 0, none⟩) ∧ x.tmps.getD 9 undef = .pointer (some ⟨k3.size, 0, none⟩) ∧ x.tmps.getD 10 undef = .pointer (some ⟨k3.size + 1, 0, none⟩) ∧ x.tmps.getD 42 undef = .slice am more.length cm ∧ x.tmps.getD 43 undef = .int .i64 (more.length : Int) ∧ x.tmps.getD 44 undef = .int .i64 (i : Int)) ?_ _ more.length _ _ ?_ ?_
  · intro m n' x h hI' ih
    obtain ⟨i, D, S, W, hm, hi, hD, P, stay, aw, an, hxs, hxd, l2, l7, l9, l10, l42, l43, l44⟩ := hI'
    obtain ⟨g, rfl⟩ : ∃ g : Nat → Value, x = { tmps := #[g 0, g 1, .slice ak ks.length ck, g 3, g 4, g 5, g 6, .pointer (some ⟨b, 0, none⟩), g 8, .pointer (some ⟨k3.size, 0, none⟩), .pointer (some ⟨k3.size + 1, 0, none⟩), g 11, g 12, g 13, g 14, g 15, g 16, g 17, g 18, g 19, g 20, g 21, g 22, g 23, g 24, g 25, g 26, g 27, g 28, g 29, g 30, g 31, g 32, g 33, g 34, g 35, g 36, g 37, g 38, g 39, g 40, g 41, .slice am more.length cm, .int .i64 (more.length : Int), .int .i64 (i : Int), g 45, g 46, g 47, g 48, g 49, g 50, g 51, g 52, g 53, g 54, g 55, g 56, g 57, g 58, g 59, g 60, g 61, g 62, g 63, g 64, g 65, g 66, g 67, g 68, g 69, g 70, g 71, g 72, g 73, g 74, g 75, g 76, g 77, g 78, g 79, g 80, g 81, g 82, g 83, g 84, g 85, g 86, g 87, g 88, g 89, g 90, g 91, g 92, g 93, g 94, g 95, g 96, g 97, g 98, g 99, g 100, g 101, g 102, g 103, g 104, g 105, g 106, g 107, g 108, g 109, g 110, g 111, g 112, g 113, g 114, g 115, g 116, g 117, g 118, g 119, g 120, g 121, g 122, g 123, g 124, g 125, g 126, g 127, g 128, g 129, g 130, g 131, g 132, g 133, g 134, g 135], defers := [] } := ⟨fun k => x.tmps.getD k undef, (act_eta hxs hxd).trans (by simp only [unrollL, Nat.reduceAdd, Nat.zero_add, l2, l7, l9, l10, l42, l43, l44])⟩; clear hxs hxd l2 l7 l9 l10 l42 l43 l44
    have hs := P.keeps.size
    have hpro := P.ro
    have rh0 : (h.ro ≤ h.size) = True := by simp; omega
    have elem : ∀ i : Nat, i < more.length → ∃ (z : T42) (b2 off2 : Nat) (cells2 : Array Value) (ow2 : Bool) (w1 : Value), am = some ⟨b2, off2, none⟩ ∧ b2 < h.size ∧ h.get b2 = some (.cells cells2 ow2) ∧ off2 + (i * 5 + 5) ≤ cells2.size ∧ cells2.extract (off2 + i * 5) (off2 + (i * 5 + 5)) = #[.int .i64 z.1, .int .i64 z.2.1, .int .i64 z.2.2.1, .int .u8 z.2.2.2.1, w1] ∧ R42.r false (· < k.size) k [.int .i64 z.1, .int .i64 z.2.1, .int .i64 z.2.2.1, .int .u8 z.2.2.2.1, w1] z ∧ oneC w1 = true := fun i hlt => by
      obtain ⟨z, hz⟩ : ∃ z, more[i]? = some z := ⟨_, List.getElem?_eq_getElem hlt⟩
      obtain ⟨b2, off2, _, cells2, ow2, part2, ee, hb2, hg2, -, hp2, hle2, hex2, -⟩ := elem_at (s := 5) rm hz rfl (by decide)
      cases ee
      have hp20 := hp2
      obtain ⟨w1, rfl, e1, e2, e3, e4, e5⟩ := R42_inv hp2
      exact ⟨z, b2, off2, cells2, ow2, w1, rfl, by omega, (P.keeps.get b2 hb2).trans hg2, hle2, hex2, hp20, (Rp.slice Rp.bool).rone e5 w1 (List.mem_singleton.2 rfl)⟩
    rcases (show (i < more.length ∧ i ≠ 60) ∨ ((i < more.length ∧ i = 60) ∨ ¬ i < more.length) by omega) with ⟨hlt, h60⟩ | hex
    · have hlt' := lt_cast hlt
      have h60' : ((i : Int) = 60) = False := by simp; omega
      obtain ⟨q1, q2, q3⟩ := dec_meas hlt hm
      obtain ⟨z, b2, off2, cells2, ow2, w1, rfl, hbb2, hgb, hle2, hex2, hp20, ow⟩ := elem i hlt
      have hii : (0 ≤ (i : Int)) = True := by simp
      have w3 := i64_succ (i := i) (by omega)
      simp (maxDischargeDepth := 16) only [z04, z08, z09, z0a, z0b, z0c, z0d, z0e, z0p, z0q, z0s, z0t, z0u, z0v, z0w, z0x, z0z, z10, z11, z13, z18, z1e, z1f, z1g, z1l, z1v, z1w, z1x, z1z, z2b, z2d, z2o, z2u, z2x, z2y, z2z, z33, z34, z3a, z3b, z3h, z3p, z3v, z3w, z3x, z3y, z3z, z41, z43, z44, z45, z46, z49, z4c, z4e, z4f, z4g, z4h, z4i, z4j, z4k, z4l, z4p, z4q, z4r, z4s, z4u, z4v, z4z, z50, z51, z53, z5a, z5b, z5f, z72, evalC_block, Nat.reduceAdd, Nat.reduceSub, ↓reduceIte, Hp.row, Hp.wr, hasBx11, tElemx22, tPartx42, tSizex42, tZerox42, hlt', hii, hgb, ne_f hbb2, ne_f0 hbb2, lt_t hbb2, lt_t0 hbb2, hle2, hex2, Int.toNat_natCast, rh0, ow, h60']
      refine ex_ev (S := fun v h2 => v = .tuple #[.agg (deedS D z).2.1.toArray, .int .i64 (deedS D z).2.2] ∧ flatOk K29 (deedS D z).2.1 ∧ ∃ S2 : Nat → Prop, Two k h2 b S2 (deedS D z).1 ∧ Aside S2 h2 k3.size (shownS E2 []).toArray ∧ Aside S2 h2 (k3.size + 1) (wC W) ∧ Aside S2 h2 h.size #[.int .i64 z.1, .int .i64 z.2.1, .int .i64 z.2.2.1, .int .u8 z.2.2.2.1, w1]) (Al k _) (fun h1 hh1 => ?_) ?_
      · have s1' : h1.size = h.size + 1 := by rw [hh1]; simp only [Hp.size_setB, Hp.size_push]
        have r1' : h1.ro = h.ro := by rw [hh1]; simp only [Hp.ro_setB, Hp.ro_push]
        have k1' : Keeps h h1 := by rw [hh1]; exact (by repeat (first | assumption | exact Keeps.refl _ | refine Keeps.push ?_ _ | refine Keeps.set ?_ (by first | omega | (simp only [Hp.size_push, Hp.size_setB]; omega)) _))
        have g1' : h1.get h.size = some (.cells #[.int .i64 z.1, .int .i64 z.2.1, .int .i64 z.2.2.1, .int .u8 z.2.2.2.1, w1] true) := by rw [hh1, get_set_self]
        have a1' : Aside S h1 h.size #[.int .i64 z.1, .int .i64 z.2.1, .int .i64 z.2.2.1, .int .u8 z.2.2.2.1, w1] := ⟨fun hn => by have := (P.disk.own _ hn).2; omega, by omega, g1'⟩
        refine (run_does (N := N) (p := (· < k.size)) jDk jLw (by omega) (P.disk.keep k1' r1') (R42.mono hp20 (fun _ h => h) id ((P.keeps.trans k1').fr fun c hc => hc)) (fun c hc => ⟨by omega, fun hS => by have := P.new c hS; omega⟩)).mono ?_
        rintro v h2 ⟨rfl, st, hf⟩
        exact ⟨rfl, hf, _, P.step k1' r1' st, aw.step k1' st, an.step k1' st, a1'.step (Keeps.refl _) st⟩
      rintro _ h2 ⟨rfl, hf, S2, P2, aw2, an2, ad2⟩
      have l2 : (deedS D z).2.1.length = 64 := hf.len
      have l2' : 64 ≤ (deedS D z).2.1.length := by omega
      have t2 : (deedS D z).2.1.take 64 = (deedS D z).2.1 := List.take_of_length_le (by omega)
      have hs2 := P2.keeps.size
      have hr2 := P2.ro
      have r2 : (h2.ro ≤ h2.size) = True := by simp; omega
      have sp64 : ∀ (cs : List Value), cs.length = 64 → ∀ l : List Value, l.length = 64 → splice l.toArray 0 cs = cs.toArray := fun cs h l hl => splice_full (by simp [h, hl])
      have gd := ad2.2.2
      have nd := ad2.2.1
      have hD2 : (deedS D z).1.1.length = 14 := by rw [deedS_len]; exact hD
      by_cases he : (deedS D z).2.2 = 0
      · have he' : ((deedS D z).2.2 = 0) = True := by simp [he]
        simp (maxDischargeDepth := 16) only [z08, z09, z0d, z0e, z0p, z0q, z0r, z0s, z0t, z0u, z0v, z0w, z0x, z0z, z10, z11, z13, z1a, z1e, z1f, z1g, z1l, z1v, z1w, z1x, z2b, z2o, z2t, z2x, z2y, z2z, z34, z35, z3b, z3h, z3x, z3y, z3z, z41, z43, z46, z49, z4c, z4e, z4f, z4g, z4h, z4i, z4j, z4k, z4l, z4m, z4n, z4o, z4p, z4q, z4r, z4s, z4u, z4v, z4z, z52, z53, z5a, z5e, z72, Nat.reduceAdd, Nat.reduceSub, ↓reduceIte, yielded, Hp.row, Hp.wr, hasBx12, tPartx42, tSizex29, tZerox29, l2, r2, flat_all1 hf, sp64, gd, ne_f nd, ne_f0 nd, lt_t nd, lt_t0 nd, he']
        refine ex_ev (S := fun v h4 => v = .int .u64 (kindN z) ∧ Keeps h2 h4 ∧ h4.ro = h2.ro) (Al k _) (fun h3 hh3 => ?_) ?_
        · have r3 : h3.ro = h2.ro := by rw [hh3]; simp only [Hp.ro_setB, Hp.ro_push]
          have k3' : Keeps h2 h3 := by rw [hh3]; exact (by repeat (first | assumption | exact Keeps.refl _ | refine Keeps.push ?_ _ | refine Keeps.set ?_ (by first | omega | (simp only [Hp.size_push, Hp.size_setB]; omega)) _))
          refine (Al.ex (run_kind jLw (N := N) (p := (· < k.size)) (x := z) (by omega) (R42.mono hp20 (fun _ h => h) id ((P2.keeps.trans k3').fr fun c hc => hc)))).mono ?_
          rintro v h4 ⟨hk4, hr4, rfl⟩
          exact ⟨rfl, k3'.trans hk4, by omega⟩
        rintro _ h4 ⟨rfl, k4, r4⟩
        have P4 := P2.keep k4 r4
        have aw4 := aw2.keep k4
        have an4 := an2.keep k4
        have ad4 := ad2.keep k4
        by_cases hk5 : kindN z < 5
        · have hk5' : (kindN z < 5) = True := by simp [hk5]
          obtain ⟨n, hzn, hn14⟩ := deed_at hk5 he
          rw [hD] at hn14
          have gd4 := ad4.2.2
          have nd4 := ad4.2.1
          have gn4 := an4.2.2
          have nn4 := an4.2.1
          have hnn : (0 ≤ (n : Int)) = True := by simp
          have hn14' : ((n : Int) < ((14 : Nat) : Int)) = True := by simp; omega
          have rn4 : (h4.ro ≤ k3.size + 1) = True := by simp; omega
          have wsz := wC_size W
          have wse := wC_set W hn14
          have hle14 : (n * 1 ≤ 13) = True := by simp; omega
          rw [hzn] at gd4
          simp (maxDischargeDepth := 16) only [z08, z0a, z0b, z0d, z0e, z0h, z0k, z0p, z0q, z0r, z0s, z0t, z0u, z0v, z0w, z0z, z10, z12, z13, z16, z18, z1e, z1f, z1v, z1w, z1x, z1y, z1z, z24, z2d, z2n, z2v, z2w, z2x, z2y, z3b, z3q, z3v, z3w, z44, z45, z49, z4e, z4f, z4g, z4h, z4i, z4m, z4n, z4o, z4p, z4q, z4r, z50, z51, z52, z53, z5a, z5e, z5f, z72, Nat.reduceLeDiff, ↓reduceIte, yielded, Hp.cell, Hp.wr, tArrx40, tFieldAx42x1, tPartx3, tSizex4, hk5', gd4, ne_f nd4, ne_f0 nd4, lt_t nd4, lt_t0 nd4, gn4, ne_f nn4, ne_f0 nn4, lt_t nn4, lt_t0 nn4, hnn, hn14', Int.toNat_natCast, rn4, wsz, hle14, wse, w3]
          refine ih (m - 1) _ _ q1 ⟨i + 1, (deedS D z).1, S2, fun i => W i || i == n, q2, q3, hD2, ⟨P4.disk.mono (by simp only [Hp.size_setB]; omega) (by simp only [Hp.ro_setB]) (fun c hc => get_set_ne (fun e => an4.1 (e ▸ hc))), P4.new, ⟨by simp only [Hp.size_setB]; exact P4.keeps.size, fun c hc => by rw [get_set_ne (by omega)]; exact P4.keeps.get c hc⟩, by simp only [Hp.ro_setB]; exact P4.ro⟩, deed_stay stay (fun j hj => by simp only [Bool.or_eq_false_iff] at hj; exact hj.1) (fun _ _ => by rw [hzn]; simp), ⟨aw4.1, by simp only [Hp.size_setB]; exact aw4.2.1, by rw [get_set_ne (by omega)]; exact aw4.2.2⟩, ⟨an4.1, by simp only [Hp.size_setB]; exact an4.2.1, get_set_self⟩, rfl, rfl, rfl, rfl, rfl, rfl, rfl, rfl, rfl⟩
        · have hk5' : (kindN z < 5) = False := by simp [hk5]
          simp (maxDischargeDepth := 16) only [z04, z08, z0a, z0c, z0d, z0e, z0h, z0k, z0p, z0q, z0r, z0s, z0t, z0v, z0w, z0z, z10, z12, z13, z1y, z24, z2d, z3b, z4e, z4f, z4g, z4h, z4i, z4m, z4n, z4o, z52, z5b, z5e, ↓reduceIte, yielded, hk5', w3]
          refine ih (m - 1) _ _ q1 ⟨i + 1, (deedS D z).1, S2, W, q2, q3, hD2, P4, deed_stay stay (fun _ h => h) (fun h => absurd h hk5), aw4, an4, rfl, rfl, rfl, rfl, rfl, rfl, rfl, rfl, rfl⟩
      · have he' : ((deedS D z).2.2 = 0) = False := by simp [he]
        simp (maxDischargeDepth := 16) only [z04, z08, z09, z0a, z0c, z0d, z0e, z0h, z0k, z0p, z0q, z0r, z0s, z0t, z0u, z0v, z0w, z0z, z10, z11, z12, z13, z1a, z1f, z1g, z1w, z1x, z1y, z24, z2b, z2o, z2t, z2y, z2z, z34, z3b, z3l, z46, z49, z4c, z4e, z4f, z4g, z4h, z4i, z4m, z4n, z4o, z4p, z4q, z4r, z4z, z52, z53, z59, z5b, z72, Nat.reduceAdd, ↓reduceIte, yielded, Hp.wr, tSizex29, tZerox29, l2, r2, flat_all1 hf, sp64, ne_f nd, ne_f0 nd, lt_t nd, lt_t0 nd, he', w3]
        exact ih (m - 1) _ _ q1 ⟨i + 1, (deedS D z).1, S2, W, q2, q3, hD2, P2.keep (by repeat (first | assumption | exact Keeps.refl _ | refine Keeps.push ?_ _ | refine Keeps.set ?_ (by first | omega | (simp only [Hp.size_push, Hp.size_setB]; omega)) _)) (by simp only [Hp.ro_setB, Hp.ro_push]), deed_stay stay (fun _ h => h) (fun _ h => absurd h he), aw2.keep (by repeat (first | assumption | exact Keeps.refl _ | refine Keeps.push ?_ _ | refine Keeps.set ?_ (by first | omega | (simp only [Hp.size_push, Hp.size_setB]; omega)) _)), an2.keep (by repeat (first | assumption | exact Keeps.refl _ | refine Keeps.push ?_ _ | refine Keeps.set ?_ (by first | omega | (simp only [Hp.size_push, Hp.size_setB]; omega)) _)), rfl, rfl, rfl, rfl, rfl, rfl, rfl, rfl, rfl⟩
    · rcases hex with ⟨hlt, rfl⟩ | hlt
      case' inl =>
        have hlt' := lt_cast hlt
        have h60' : (((60 : Nat) : Int) = 60) = True := by simp
        obtain ⟨z, b2, off2, cells2, ow2, w1, rfl, hbb2, hgb, hle2, hex2, hp20, ow⟩ := elem 60 hlt
        have hii : (0 ≤ ((60 : Nat) : Int)) = True := by simp
        have kx : Keeps h ((h.push (some (.cells #[.int .i64 0, .int .i64 0, .int .i64 0, .int .u8 0, .slice none 0 0] true))).setB h.size (some (.cells #[.int .i64 z.1, .int .i64 z.2.1, .int .i64 z.2.2.1, .int .u8 z.2.2.2.1, w1] true))) := (by repeat (first | assumption | exact Keeps.refl _ | refine Keeps.push ?_ _ | refine Keeps.set ?_ (by first | omega | (simp only [Hp.size_push, Hp.size_setB]; omega)) _))
        have hu := (hsl _ ((P.keeps.trans kx).fr fun c hc => hc)).1
        simp (maxDischargeDepth := 16) only [z04, z06, z08, z09, z0a, z0b, z0d, z0e, z0g, z0j, z0m, z0p, z0q, z0s, z0t, z0u, z0v, z0w, z0x, z0z, z10, z11, z13, z18, z1e, z1f, z1g, z1k, z1l, z1p, z1r, z1u, z1v, z1w, z1x, z1z, z2b, z2d, z2l, z2o, z2u, z2x, z2y, z2z, z34, z3a, z3b, z3h, z3p, z3v, z3w, z44, z45, z46, z49, z4c, z4e, z4f, z4g, z4h, z4i, z4j, z4k, z4l, z4p, z4q, z4r, z4s, z4u, z4v, z4z, z50, z51, z53, z5a, z5f, z72, z87, evalC_block, Nat.reduceEqDiff, Nat.reduceAdd, Nat.reduceMul, ↓reduceIte, Hp.row, Hp.wr, hasBx8, tElemx22, tLenx23, tPartx42, tSizex42, tZerox42, hlt', hii, hgb, ne_f hbb2, ne_f0 hbb2, lt_t hbb2, lt_t0 hbb2, hle2, hex2, Int.toNat_natCast, rh0, ow, h60', hu]
      case' inr =>
        have hlt' := nlt_cast hlt
        have hu := (hsl _ (P.keeps.fr fun c hc => hc)).1
        simp (maxDischargeDepth := 16) only [z06, z08, z09, z0a, z0c, z0d, z0e, z0g, z0j, z0m, z0p, z0q, z0s, z0t, z0v, z0w, z0x, z0z, z10, z13, z1k, z1l, z1p, z1r, z1u, z2d, z2l, z3b, z3h, z4e, z4f, z4g, z4h, z4i, z4j, z4k, z4l, z4s, z4u, z4v, z4z, z5b, z87, ↓reduceIte, hasBx8, tLenx23, hlt', hu]
      all_goals
        refine ex_ev (S := fun v h2 => v = .tuple #[.agg (shownS D k30).toArray, .bool true] ∧ Two k h2 b S D ∧ Aside S h2 k3.size (shownS E2 []).toArray ∧ Aside S h2 (k3.size + 1) (wC W) ∧ (shownS D k30).length = 896 ∧ (shownS D k30).all oneC = true) (Al k _) (fun h1 hh1 => ?_) ?_
        case' refine_1 =>
          have k1' : Keeps h h1 := by rw [hh1]; first | exact Keeps.refl _ | exact (by repeat (first | assumption | exact Keeps.refl _ | refine Keeps.push ?_ _ | refine Keeps.set ?_ (by first | omega | (simp only [Hp.size_push, Hp.size_setB]; omega)) _))
          have r1' : h1.ro = h.ro := by subst hh1; first | rfl | simp only [Hp.ro_setB, Hp.ro_push]
          have P1 := P.keep k1' r1'
          refine (Al.ex (run_shown (N := N) (p := (· < k.size)) P1.disk hD (hsl _ (P1.keeps.fr fun c hc => hc)).2 (fun c hc => by have := P1.keeps.size; omega) (by omega))).mono ?_
          rintro v h2 ⟨hk2, hr2, rfl, l2, o2, -⟩
          exact ⟨rfl, P1.keep hk2 hr2, (aw.keep k1').keep hk2, (an.keep k1').keep hk2, l2, o2⟩
        rintro _ h2 ⟨rfl, P2, aw2, an2, l2, o2⟩
        have hs2 := P2.keeps.size
        have hr2 := P2.ro
        have r2 : (h2.ro ≤ h2.size) = True := by simp; omega
        have l2' : 896 ≤ (shownS D k30).length := by omega
        have t2 : (shownS D k30).take 896 = shownS D k30 := List.take_of_length_le (by omega)
        have sp2 : splice zero30 0 (shownS D k30) = (shownS D k30).toArray := splice_full (by rw [zsz, l2])
        simp (maxDischargeDepth := 16) only [z08, z09, z0d, z0e, z0p, z0q, z0s, z0t, z0u, z0v, z0w, z0z, z10, z11, z1a, z1f, z1g, z1w, z1x, z2o, z2t, z2y, z2z, z34, z3b, z46, z49, z4c, z4e, z4f, z4g, z4h, z4i, z4m, z4n, z4o, z4p, z4z, z53, z72, evalC_block, ↓reduceIte, Hp.wr, tSizex30, tZerox30, r2, l2, o2, zsz, sp2]
        refine loop_rule (Al k _) (fun m x h => ∃ (j : Nat), m = 14 - j ∧ j ≤ 14 ∧ Two k h b S D ∧ Aside S h k3.size (shownS E2 []).toArray ∧ Aside S h (k3.size + 1) (wC W) ∧ Aside S h h2.size (shownS D k30).toArray ∧
          x.tmps.size = 136 ∧ x.defers = [] ∧ x.tmps.getD 7 undef = .pointer (some ⟨b, 0, none⟩) ∧ x.tmps.getD 8 undef = .bool true ∧ x.tmps.getD 9 undef = .pointer (some ⟨k3.size, 0, none⟩) ∧ x.tmps.getD 10 undef = .pointer (some ⟨k3.size + 1, 0, none⟩) ∧ x.tmps.getD 15 undef = .pointer (some ⟨h2.size, 0, none⟩) ∧ x.tmps.getD 78 undef = .int .i64 (j : Int)) ?_ _ 14 _ _ ?_ ?_
        case' refine_1 =>
          intro m n' x h hI' ih
          obtain ⟨j, hm, hj, P, aw, an, at', hxs, hxd, l7, l8, l9, l10, l15, l78⟩ := hI'
          obtain ⟨g, rfl⟩ : ∃ g : Nat → Value, x = { tmps := #[g 0, g 1, g 2, g 3, g 4, g 5, g 6, .pointer (some ⟨b, 0, none⟩), .bool true, .pointer (some ⟨k3.size, 0, none⟩), .pointer (some ⟨k3.size + 1, 0, none⟩), g 11, g 12, g 13, g 14, .pointer (some ⟨h2.size, 0, none⟩), g 16, g 17, g 18, g 19, g 20, g 21, g 22, g 23, g 24, g 25, g 26, g 27, g 28, g 29, g 30, g 31, g 32, g 33, g 34, g 35, g 36, g 37, g 38, g 39, g 40, g 41, g 42, g 43, g 44, g 45, g 46, g 47, g 48, g 49, g 50, g 51, g 52, g 53, g 54, g 55, g 56, g 57, g 58, g 59, g 60, g 61, g 62, g 63, g 64, g 65, g 66, g 67, g 68, g 69, g 70, g 71, g 72, g 73, g 74, g 75, g 76, g 77, .int .i64 (j : Int), g 79, g 80, g 81, g 82, g 83, g 84, g 85, g 86, g 87, g 88, g 89, g 90, g 91, g 92, g 93, g 94, g 95, g 96, g 97, g 98, g 99, g 100, g 101, g 102, g 103, g 104, g 105, g 106, g 107, g 108, g 109, g 110, g 111, g 112, g 113, g 114, g 115, g 116, g 117, g 118, g 119, g 120, g 121, g 122, g 123, g 124, g 125, g 126, g 127, g 128, g 129, g 130, g 131, g 132, g 133, g 134, g 135], defers := [] } := ⟨fun k => x.tmps.getD k undef, (act_eta hxs hxd).trans (by simp only [unrollL, Nat.reduceAdd, Nat.zero_add, l7, l8, l9, l10, l15, l78])⟩; clear hxs hxd l7 l8 l9 l10 l15 l78
          have hs := P.keeps.size
          by_cases hlt : j < 14
          case' pos =>
            have hlt' : ((j : Int) < 14) = True := by simp; omega
            have hlt2 : ((j : Int) < ((14 : Nat) : Int)) = True := by simp; omega
            have w3 := i64_succ (i := j) (by omega)
            have hjj : (0 ≤ (j : Int)) = True := by simp
            have gw := aw.2.2
            have gn := an.2.2
            have gt := at'.2.2
            have nw := aw.2.1
            have nn := an.2.1
            have nt := at'.2.1
            have wg : (wC W)[j * 1]? = some (.bool (W j)) := by rw [Nat.mul_one]; exact wC_get W hlt
            simp (maxDischargeDepth := 16) only [z04, z08, z09, z0a, z0b, z0d, z0e, z0p, z0q, z0s, z0t, z0v, z0w, z0z, z10, z11, z13, z2d, z3b, z4e, z4f, z4g, z4h, z4i, z5a, z7t, evalC_block, hlt']
            rw [evalDraw_modes _ _ [(0, 0, 1), (0, 1, 3), (1, 3, 7), (0, 7, 15), (0, 15, 31), (0, 31, 63), (0, 63, 127), (2, 127, 255), (0, 31, 287), (0, 287, 799), (2, 799, 1823), (0, 2047, 4095), (0, 4095, 8191)] (by kernel_rfl)]
            cases hW : W j with
            | true =>
              rw [hW] at wg
              simp (maxDischargeDepth := 16) only [z04, z08, z0a, z0c, z0d, z0e, z0h, z0k, z0p, z0q, z0s, z0t, z0v, z0w, z0z, z10, z12, z13, z14, z18, z1e, z1v, z1y, z1z, z24, z2h, z2v, z2x, z3b, z3l, z46, z4e, z4f, z4g, z4h, z4i, z4m, z4n, z4o, z50, z51, z52, z53, z59, z5a, z5c, z5j, z5n, z5t, z5u, z5w, z5y, z61, z62, z63, z6a, z6h, z6k, z6t, z6v, z6x, z70, z71, Nat.reduceAdd, ↓reduceIte, yielded, keepR, Hp.cell, tArrx40, tPartx4, hjj, hlt2, Int.toNat_natCast, gn, ne_f nw, ne_f0 nw, lt_t nw, lt_t0 nw, ne_f nn, ne_f0 nn, lt_t nn, lt_t0 nn, ne_f nt, ne_f0 nt, lt_t nt, lt_t0 nt, w3, wg]
              exact ih (m - 1) _ _ (by omega) ⟨j + 1, by omega, by omega, P, aw, an, at', rfl, rfl, rfl, rfl, rfl, rfl, rfl, rfl⟩
            | false =>
              rw [hW] at wg
              obtain ⟨y, hy⟩ : ∃ y, E2.1[j]? = some y := ⟨_, List.getElem?_eq_getElem (by omega)⟩
              have hyD : (crashS D k30).1[j]? = some y := (stay.shown k30 hW).trans hy
              have hyE : (crashS E2 []).1[j]? = some y := by rw [hpl]; exact hy
              have fy : flatOk K29 y := hb3 y (List.mem_of_getElem? hyE)
              have bD : List.take 64 (List.drop (j * 64) (shownS D k30)) = y := shown_block (fun y hy => (P.disk.crashed k30 y hy).len) hyD
              have bE : List.take 64 (List.drop (j * 64) (shownS E2 [])) = y := shown_block (fun y hy => (hb3 y hy).len) hyE
              have hle : (j * 64 + 64 ≤ 896) = True := by simp; omega
              have vbf := fun p => vb_flat (p := p) fy
              have vaf := fun p => all_flat (p := p) fy
              have nb := neB fy
              simp (maxDischargeDepth := 16) only [z04, z08, z0a, z0c, z0d, z0e, z0h, z0k, z0p, z0q, z0s, z0t, z0v, z0w, z0z, z10, z12, z13, z14, z18, z1e, z1v, z1y, z1z, z24, z2h, z2v, z2x, z3b, z3x, z3y, z46, z4e, z4f, z4g, z4h, z4i, z4m, z4n, z4o, z4p, z4z, z50, z51, z52, z53, z5a, z5d, z5e, z5j, z5l, z5n, z5t, z5u, z5w, z5y, z61, z62, z63, z6a, z6h, z6k, z6t, z6v, z6x, z70, z71, z73, Nat.reduceAdd, ↓reduceIte, yielded, keepR, Hp.cell, Hp.row, tArrx30, tArrx40, tPartx4, tPartx29, hjj, hlt2, Int.toNat_natCast, gw, gn, gt, ne_f nw, ne_f0 nw, lt_t nw, lt_t0 nw, ne_f nn, ne_f0 nn, lt_t nn, lt_t0 nn, ne_f nt, ne_f0 nt, lt_t nt, lt_t0 nt, w3, wg, l2, ls, hle, bD, bE, vbf, nb]
              exact ih (m - 1) _ _ (by omega) ⟨j + 1, by omega, by omega, P, aw, an, at', rfl, rfl, rfl, rfl, rfl, rfl, rfl, rfl⟩
          case' neg =>
            obtain rfl : j = 14 := by omega
            have hlt' : (((14 : Nat) : Int) < 14) = False := by simp
            simp (maxDischargeDepth := 16) only [z06, z08, z09, z0a, z0c, z0d, z0e, z0g, z0j, z0m, z0p, z0q, z0r, z0s, z0t, z0v, z0w, z0x, z0z, z10, z13, z14, z1l, z2d, z2h, z3b, z3h, z4e, z4f, z4g, z4h, z4i, z4j, z4k, z4l, z4m, z4n, z4o, z4s, z4u, z4v, z52, z5b, z5c, z5e, ↓reduceIte, yielded, hasBx13, hlt']
            have rd := run_Dead (N := N) jDk.Dead (by omega) P.disk
            cases hdd : D.2.2.2.2.1 with
            | true =>
              rw [hdd] at rd
              simp (maxDischargeDepth := 16) only [z05, z08, z09, z0a, z0b, z0d, z0e, z0f, z0o, z0p, z0q, z0s, z0t, z0v, z0w, z0z, z10, z11, z12, z1y, z3b, z3c, z3f, z4e, z4f, z4g, z4h, z4i, z4z, z59, ↓reduceIte, rd]
              exact Al.done P.keeps P.ro rfl
            | false =>
              rw [hdd] at rd
              have g1 := (P.keeps.get 0 hg0).trans hg
              have n1 : 0 < h.size := by omega
              obtain ⟨a0, f0, y0, l0, sh0⟩ := sync_all hdd hD P.disk.wf
              rw [hal] at sh0
              generalize hDa : (armS D (-1)).1 = Da at *
              generalize hDf : (failS Da (-1)).1 = Df at *
              generalize hDy : (syncS Df).1 = Dy at *
              simp (maxDischargeDepth := 16) only [z04, z08, z09, z0a, z0c, z0d, z0e, z0p, z0q, z0s, z0t, z0v, z0w, z0x, z0y, z0z, z10, z12, z1e, z1l, z1v, z1y, z2x, z3b, z3h, z4e, z4f, z4g, z4h, z4i, z4j, z4k, z4l, z4m, z4n, z4s, z4u, z4v, z59, ↓reduceIte, Hp.cell, hasBx8, tPartx23, rd, g1, ne_f n1, ne_f0 n1, lt_t n1, lt_t0 n1]
              refine ex_any (Al k _) (Al.ex (run_shown (N := N) (p := (· < k.size)) P.disk hD ((Rp.slice Rp.bool).mono ra (fun _ h => h) id (P.keeps.fr fun c hc => hc)) (fun c hc => by omega) (by omega))) ?_
              rintro _ h3 ⟨hk3, hr3, rfl, l3, o3, f3⟩
              have P3 := P.keep hk3 hr3
              have hs3 := P3.keeps.size
              have hr3' := P3.ro
              have r3 : (h3.ro ≤ h3.size) = True := by simp; omega
              have l3' : 896 ≤ (shownS D al).length := by omega
              have t3 : (shownS D al).take 896 = shownS D al := List.take_of_length_le (by omega)
              have sp3 : splice zero30 0 (shownS D al) = (shownS D al).toArray := splice_full (by rw [zsz, l3])
              simp (maxDischargeDepth := 16) only [z08, z09, z0d, z0e, z0p, z0q, z0r, z0s, z0t, z0u, z0v, z0w, z0x, z0z, z10, z11, z14, z1a, z1f, z1g, z1l, z1w, z1x, z2h, z2o, z2t, z2y, z2z, z34, z3b, z3h, z46, z49, z4c, z4e, z4f, z4g, z4h, z4i, z4j, z4k, z4l, z4m, z4n, z4o, z4p, z4s, z4u, z4v, z4z, z52, z53, z5c, z5e, z72, ↓reduceIte, yielded, Hp.wr, hasBx14, tSizex30, tZerox30, r3, l3, o3, zsz, sp3]
              refine ex_ev (S := fun v h5 => v = .int .i64 0 ∧ ∃ S5, Two k h5 b S5 Da ∧ Aside S5 h5 h3.size (shownS D al).toArray) (Al k _) (fun h4 hh4 => ?_) ?_
              case' refine_1 =>
                have k4 : Keeps h3 h4 := by rw [hh4]; exact (by repeat (first | assumption | exact Keeps.refl _ | refine Keeps.push ?_ _ | refine Keeps.set ?_ (by first | omega | (simp only [Hp.size_push, Hp.size_setB]; omega)) _))
                have r4 : h4.ro = h3.ro := by rw [hh4]; simp only [Hp.ro_setB, Hp.ro_push]
                have as4 : Aside S h4 h3.size (shownS D al).toArray := ⟨fun hn => by have := (P3.disk.own _ hn).2; omega, by rw [hh4]; simp only [Hp.size_setB, Hp.size_push]; omega, by rw [hh4, get_set_self]⟩
                have P4 := P3.keep k4 r4
                refine (run_Arm (N := N) (n := -1) jDk (by omega) P4.disk m1ok).mono ?_
                rw [hDa, a0]
                rintro v h5 ⟨rfl, st⟩
                exact ⟨rfl, _, P4.step (Keeps.refl _) rfl st, as4.step (Keeps.refl _) st⟩
              rintro _ h5 ⟨rfl, S5, P5, as5⟩
              simp (maxDischargeDepth := 16) only [z0q, z0r, z0s, z0t, z0v, z0w, z0x, z0z, z10, z12, z13, z1l, z1y, z2c, z3b, z3h, z4e, z4f, z4g, z4h, z4i, z4j, z4k, z4l, z4m, z4n, z4o, z4s, z4u, z4v, z52, z59, z5a, z5c, z5e, ↓reduceIte, yielded, hasBx15]
              refine ex_any (Al k _) (run_Fail (N := N) (n := -1) jDk (by omega) P5.disk m1ok) ?_
              rw [hDf, f0]
              rintro _ h6 ⟨rfl, st6⟩
              have P6 := P5.step (Keeps.refl _) rfl st6
              have as6 := as5.step (Keeps.refl _) st6
              simp (maxDischargeDepth := 16) only [z0q, z0r, z0s, z0t, z0v, z0w, z0x, z0z, z10, z12, z13, z1l, z1y, z2c, z3b, z3h, z4e, z4f, z4g, z4h, z4i, z4j, z4k, z4l, z4m, z4n, z4o, z4s, z4u, z4v, z52, z59, z5a, z5c, z5e, ↓reduceIte, yielded, hasBx16]
              refine ex_any (Al k _) (run_Sync (N := N) jDk (by omega) P6.disk) ?_
              rw [hDy, y0]
              rintro _ h7 ⟨rfl, st7⟩
              have P7 := P6.step (Keeps.refl _) rfl st7
              have as7 := as6.step (Keeps.refl _) st7
              simp (maxDischargeDepth := 16) only [z04, z08, z09, z0a, z0c, z0d, z0e, z0p, z0q, z0r, z0s, z0t, z0v, z0w, z0x, z0z, z10, z12, z13, z1l, z1y, z2c, z3b, z3h, z4e, z4f, z4g, z4h, z4i, z4j, z4k, z4l, z4m, z4n, z4o, z4s, z4u, z4v, z52, z59, z5a, z5c, z5e, ↓reduceIte, yielded, hasBx8]
              refine ex_any (Al k _) (Al.ex (run_shown (N := N) (p := nop) (ks := []) P7.disk l0 (ownFr OwnC.nil (fun c h => by cases h)) (fun c hc => hc.elim) (by omega))) ?_
              rw [sh0]
              rintro _ h8 ⟨hk8, hr8, rfl, -⟩
              have P8 := P7.keep hk8 hr8
              have as8 := as7.keep hk8
              have hs8 := P8.keeps.size
              have hr8' := P8.ro
              have r8 : (h8.ro ≤ h8.size) = True := by simp; omega
              have g8 := as8.2.2
              have n8 := as8.2.1
              have eO := eqO f3
              simp (maxDischargeDepth := 16) only [z05, z08, z09, z0d, z0e, z0o, z0p, z0q, z0r, z0s, z0t, z0u, z0v, z0w, z0z, z10, z11, z12, z13, z1a, z1e, z1f, z1g, z1v, z1w, z1x, z1y, z2o, z2t, z2x, z2y, z2z, z33, z34, z35, z3b, z3c, z3f, z3x, z3y, z3z, z46, z49, z4c, z4e, z4f, z4g, z4h, z4i, z4m, z4n, z4o, z4p, z4z, z52, z53, z5e, z72, Nat.reduceSub, ↓reduceIte, yielded, Hp.row, Hp.wr, tPartx30, tSizex30, tZerox30, r8, l3, t3, o3, zsz, sp3, g8, ne_f n8, ne_f0 n8, lt_t n8, lt_t0 n8, eO]
              exact Al.done (P8.keeps.trans (by repeat (first | assumption | exact Keeps.refl _ | refine Keeps.push ?_ _ | refine Keeps.set ?_ (by first | omega | (simp only [Hp.size_push, Hp.size_setB]; omega)) _))) (by simp only [Hp.ro_setB, Hp.ro_push]; exact P8.ro) rfl
        case' refine_2 => omega
        case' refine_3 => exact ⟨0, by omega, by omega, P2.keep (by repeat (first | assumption | exact Keeps.refl _ | refine Keeps.push ?_ _ | refine Keeps.set ?_ (by first | omega | (simp only [Hp.size_push, Hp.size_setB]; omega)) _)) (by simp only [Hp.ro_setB, Hp.ro_push]), aw2.keep (by repeat (first | assumption | exact Keeps.refl _ | refine Keeps.push ?_ _ | refine Keeps.set ?_ (by first | omega | (simp only [Hp.size_push, Hp.size_setB]; omega)) _)), an2.keep (by repeat (first | assumption | exact Keeps.refl _ | refine Keeps.push ?_ _ | refine Keeps.set ?_ (by first | omega | (simp only [Hp.size_push, Hp.size_setB]; omega)) _)), ⟨fun hn => by have := (P2.disk.own _ hn).2; omega, by simp only [Hp.size_setB, Hp.size_push]; omega, get_set_self⟩, rfl, rfl, rfl, rfl, rfl, rfl, rfl, rfl⟩
  · omega
  · exact ⟨0, E2, S2, fun _ => false, by omega, by omega, L2, P3.keep (by repeat (first | assumption | exact Keeps.refl _ | refine Keeps.push ?_ _ | refine Keeps.set ?_ (by first | omega | (simp only [Hp.size_push, Hp.size_setB]; omega)) _)) (by simp only [Hp.ro_setB, Hp.ro_push]), stay0, ⟨fun hn => by have := (P3.disk.own _ hn).2; omega, by simp only [Hp.size_setB, Hp.size_push]; omega, by rw [get_set_ne (by omega), get_push_ne (by simp only [Hp.size_setB, Hp.size_push]; omega), get_set_self]⟩, ⟨fun hn => by have := (P3.disk.own _ hn).2; omega, by simp only [Hp.size_setB, Hp.size_push]; omega, get_set_self⟩, rfl, rfl, rfl, rfl, rfl, rfl, rfl, rfl, rfl⟩
end
end Go.Abs.B1d
