/- The buffer has no more than it may, no sector twice, and what was written last. -/
import Derived.Test.YtnlhfcipapbfmaaDk28
import Derived.Test.YtnlhfcipapbfmaaAbsE
namespace Go.Abs.B1
open Go.Proofs
set_option maxRecDepth 10000
set_option maxHeartbeats 8000000
set_option linter.all false
theorem putS_lenB (D : DV) (i : Int) (x : List Value) : (putS D i x).1.length = D.1.length := by
  unfold putS
  split
  · rfl
  · split
    · split
      · simp
      · rfl
    · rfl
theorem deedS_lenB (D : DV) (x : T94) : (deedS D x).1.1.length = D.1.length := by
  have h1 := fun i w => (actS_keeps D i w).1
  have hs : (syncS D).1.1.length = D.1.length := by
    unfold syncS
    split
    · simp only [emptyS, downL_len, h1]
    · rw [h1]
  have hw : ∀ i y, (writeS D i y).1.1.length = D.1.length := fun i y => by
    unfold writeS
    split
    · simp only [putS_lenB, h1]
    · rw [h1]
  unfold deedS
  split
  · simp only [readS, h1]
  · split
    · exact hs
    · split
      · unfold armS; split <;> rfl
      · split
        · unfold failS; split <;> rfl
        · split
          · simp only [crashS, downL_len]
          · exact hw _ _
theorem putS_has (D : DV) (i : Int) (x : List Value) : ∃ r ∈ (putS D i x).2.1, r.1 = i := by
  unfold putS
  rcases idxF_range i D.2.1 0 with ⟨q, -⟩ | ⟨j, y, q1, q2, q3, -⟩
  · rw [if_neg (by omega)]
    split
    · split
      · exact ⟨(i, x), by simp, rfl⟩
      · exact ⟨(i, x), by simp, rfl⟩
    · exact ⟨(i, x), by simp, rfl⟩
  · rw [if_pos (by omega)]
    have hj := (List.getElem?_eq_some_iff.1 q1).1
    have : (idxF i D.2.1 0).toNat = j := by omega
    rw [this]
    exact ⟨(i, x), List.mem_of_getElem? (by rw [List.getElem?_set_self (by simpa using hj)]), rfl⟩
theorem kindN_lt (x : T94) : kindN x < 10 ∧ 0 ≤ kindN x := by
  have h : 0 ≤ IntKind.u64.wrap x.1 := by
    show 0 ≤ x.1 % _
    exact Int.emod_nonneg _ (by decide)
  exact ⟨Int.tmod_lt_of_pos _ (by decide), Int.tmod_nonneg _ h⟩
theorem deed_wrote {D : DV} {x : T94} (h : kindN x < 5) (he : (deedS D x).2.2 = 0) : ∃ r ∈ (deedS D x).1.2.1, r.1 = x.2.1 := by
  have h0 := kindN_lt x
  unfold deedS at he ⊢
  rw [if_neg (by omega), if_neg (by omega), if_neg (by omega), if_neg (by omega), if_neg (by omega)] at he ⊢
  simp only [writeS] at he ⊢
  split at he
  · rename_i ha
    rw [if_pos ha]
    exact putS_has _ _ _
  · rename_i ha; exact absurd he ha
theorem deed_len {D : DV} {x : T94} (he : (deedS D x).2.2 ≠ 0) : (deedS D x).1.2.1.length = D.2.1.length := by
  unfold deedS at he ⊢
  split
  · exact congrArg List.length (actS_keeps D x.2.1 false).2
  · rename_i h5
    rw [if_neg h5] at he
    split
    · rename_i h6
      rw [if_pos h6] at he
      simp only [syncS] at he ⊢
      split at he
      · exact absurd rfl he
      · rename_i ha
        rw [if_neg ha]
        exact congrArg List.length (actS_keeps D 0 true).2
    · rename_i h6
      rw [if_neg h6] at he
      split
      · simp only [armS]; split <;> rfl
      · rename_i h7
        rw [if_neg h7] at he
        split
        · simp only [failS]; split <;> rfl
        · rename_i h8
          rw [if_neg h8] at he
          split
          · rename_i h9
            rw [if_pos h9] at he
            exact absurd rfl he
          · rename_i h9
            rw [if_neg h9] at he
            simp only [writeS] at he ⊢
            split at he
            · exact absurd rfl he
            · rename_i ha
              rw [if_neg ha]
              exact congrArg List.length (actS_keeps D x.2.1 true).2
theorem deed_empty {D : DV} {x : T94} (h : kindN x = 6 ∨ kindN x = 9) (he : (deedS D x).2.2 = 0) : (deedS D x).1.2.1 = [] := by
  unfold deedS at he ⊢
  rcases h with h | h
  · rw [if_neg (by omega), if_pos h] at he ⊢
    simp only [syncS] at he ⊢
    split at he
    · rename_i ha; rw [if_pos ha]; rfl
    · rename_i ha; exact absurd he ha
  · rw [if_neg (by omega), if_neg (by omega), if_neg (by omega), if_neg (by omega), if_pos h]
    rfl
/-- The sectors that are met. -/
def metL (rs : List T167) : List (Int × Value) := rs.map fun r => (r.1, Value.bool true)
theorem metL_take {rs : List T167} {i : Nat} {r : T167} (h : rs[i]? = some r) : metL (rs.take (i + 1)) = metL (rs.take i) ++ [(r.1, .bool true)] := by
  rw [metL, List.take_succ, h]; simp [metL]
theorem metL_new {rs : List T167} {i : Nat} {r : T167} (h : rs[i]? = some r) (hn : (rs.map (·.1)).Nodup) : ∀ p ∈ metL (rs.take i), p.1 ≠ r.1 := by
  intro p hp
  obtain ⟨s, hs, rfl⟩ := List.mem_map.1 hp
  obtain ⟨j, hj⟩ := List.getElem?_of_mem hs
  rw [List.getElem?_take] at hj
  split at hj
  · rename_i hlt
    intro e
    have e1 : (rs.map (·.1))[j]? = some r.1 := by rw [List.getElem?_map, hj]; simpa using e
    have e2 : (rs.map (·.1))[i]? = some r.1 := by rw [List.getElem?_map, h]; rfl
    have hi := (List.getElem?_eq_some_iff.1 e2).1
    have := (List.getElem?_inj (by omega) hn).1 (e1.trans e2.symm)
    omega
  · cases hj
theorem jDkB : IDk I0 := by constructor <;> rfl
theorem jLwB : ILw I0 := by constructor <;> rfl
section
variable {k : Hp}
structure Buf (k h : Hp) (b : Nat) (S : Nat → Prop) (D : DV) : Prop where
  disk : DiskAt S h b D
  new : ∀ c, S c → k.size ≤ c
  keeps : Keeps k h
  ro : h.ro = k.ro
theorem Buf.step {h h1 h2 : Hp} {b : Nat} {S : Nat → Prop} {D E : DV} (P : Buf k h b S D) (hk : Keeps h h1) (hr : h1.ro = h.ro) (st : Step S h1 h2 b E) : Buf k h2 b (grow S h1 h2) E := by
  obtain ⟨f1, f2⟩ := st.fresh P.new (P.keeps.trans hk)
  exact ⟨st.1, f1, f2, by have := st.2.2.1; have := P.ro; omega⟩
theorem Buf.keep {h h1 : Hp} {b : Nat} {S : Nat → Prop} {D : DV} (P : Buf k h b S D) (hk : Keeps h h1) (hr : h1.ro = h.ro) : Buf k h1 b S D :=
  ⟨P.disk.keep hk hr, P.new, P.keeps.trans hk, hr.trans P.ro⟩
/-- A block aside of the disk. -/
def Asd (S : Nat → Prop) (h : Hp) (c : Nat) (cells : Array Value) : Prop := ¬ S c ∧ c < h.size ∧ h.get c = some (.cells cells true)
theorem Asd.keep {S : Nat → Prop} {h h1 : Hp} {c : Nat} {cells : Array Value} (x : Asd S h c cells) (hk : Keeps h h1) : Asd S h1 c cells := ⟨x.1, by have := x.2.1; have := hk.size; omega, (hk.get _ x.2.1).trans x.2.2⟩
theorem Asd.step {S : Nat → Prop} {h h1 h2 : Hp} {b c : Nat} {E : DV} {cells : Array Value} (x : Asd S h c cells) (hk : Keeps h h1) (st : Step S h1 h2 b E) : Asd (grow S h1 h2) h2 c cells := by
  have h0 := x.2.1
  have s1 := hk.size
  have s2 := st.2.1
  refine ⟨fun hc => ?_, by omega, (st.2.2.2 c (by omega) x.1).trans ((hk.get _ h0).trans x.2.2)⟩
  rcases hc with hc | hc
  · exact x.1 hc
  · omega
theorem run7 {vl : Value} {l : List T94} (rl : R88.r false (· < k.size) k [vl] l) (hro : k.ro ≤ k.size) :
    ∃ N, Al k (fun _ w => w = .bool true) (evalV Try.prog I0 N (.fn 7) #[vl] k) := by
  refine ⟨l.length + 400 + 1, ?_⟩
  generalize hN : l.length + 400 = N
  obtain ⟨am, cm, rfl, -, hlm⟩ := slice_form rl
  unfold capOpen at hlm
  have h0 : I0 7 = none := rfl
  rw [evalV_call (P := Try.prog) (intr := I0) (f := 7) (m := 112) (rs := #[.tmp 2]) h0 Try.func7 rfl rfl rfl]
  simp (maxDischargeDepth := 16) only [z08, z09, z0d, z0e, z0p, z0q, z0s, z0t, z0w, z0x, z11, z1l, z3h, z4g, z4h, z4i, z4j, z4l, z4p, z4q, z4r, z4s, z4t, z4u, z4v, z4w, z4x, z4y, z53, Nat.reduceSub, ↓reduceIte, hasBx35]
  refine ex_any (Al k _) (Al.ex (run_wakes jDkB rfl (by omega) hro)) ?_
  rintro _ k0 ⟨hk0, hr0, rfl⟩
  have s0 := hk0.size
  simp (maxDischargeDepth := 16) only [z04, z08, z09, z0a, z0c, z0d, z0e, z0p, z0q, z0s, z0t, z0v, z0w, z0x, z0z, z14, z1l, z2h, z3b, z3h, z4e, z4f, z4g, z4h, z4i, z4j, z4k, z4l, z4s, z4u, z4v, z5c, ↓reduceIte, hasBx36]
  refine ex_any (Al k _) (run_New (n := 14) jDkB (by omega) (by omega) (by decide) (by decide)) ?_
  rintro _ k1 ⟨b, rfl, hb, hk1, hr1, d1⟩
  have s1 := hk1.size
  simp (maxDischargeDepth := 16) only [z04, z08, z09, z0a, z0c, z0d, z0e, z0p, z0q, z0s, z0t, z0v, z0w, z0z, z10, z11, z13, z1a, z1p, z1r, z2c, z2t, z3b, z4e, z4f, z4g, z4h, z4i, z4m, z4n, z4o, z5a, z5c, evalC_block, tLenx88]
  refine loop_rule (Al k _) (fun m x h => ∃ (i : Nat) (D : DV) (S : Nat → Prop), m = l.length - i ∧ i ≤ l.length ∧ D.1.length = 14 ∧ Buf k h b S D ∧
    x.tmps.size = 112 ∧ x.defers = [] ∧ x.tmps.getD 3 undef = .pointer (some ⟨b, 0, none⟩) ∧ x.tmps.getD 22 undef = .slice am l.length cm ∧ x.tmps.getD 23 undef = .int .i64 (l.length : Int) ∧ x.tmps.getD 24 undef = .int .i64 (i : Int)) ?_ _ l.length _ _ ?_ ?_
  · intro m n' x h hI' ih
    obtain ⟨i, D, S, hm, hi, hD, P, hxs, hxd, l3, l22, l23, l24⟩ := hI'
    obtain ⟨g, rfl⟩ : ∃ g : Nat → Value, x = { tmps := #[g 0, g 1, g 2, .pointer (some ⟨b, 0, none⟩), g 4, g 5, g 6, g 7, g 8, g 9, g 10, g 11, g 12, g 13, g 14, g 15, g 16, g 17, g 18, g 19, g 20, g 21, .slice am l.length cm, .int .i64 (l.length : Int), .int .i64 (i : Int), g 25, g 26, g 27, g 28, g 29, g 30, g 31, g 32, g 33, g 34, g 35, g 36, g 37, g 38, g 39, g 40, g 41, g 42, g 43, g 44, g 45, g 46, g 47, g 48, g 49, g 50, g 51, g 52, g 53, g 54, g 55, g 56, g 57, g 58, g 59, g 60, g 61, g 62, g 63, g 64, g 65, g 66, g 67, g 68, g 69, g 70, g 71, g 72, g 73, g 74, g 75, g 76, g 77, g 78, g 79, g 80, g 81, g 82, g 83, g 84, g 85, g 86, g 87, g 88, g 89, g 90, g 91, g 92, g 93, g 94, g 95, g 96, g 97, g 98, g 99, g 100, g 101, g 102, g 103, g 104, g 105, g 106, g 107, g 108, g 109, g 110, g 111], defers := [] } := ⟨fun k => x.tmps.getD k undef, (act_eta hxs hxd).trans (by simp only [unrollL, Nat.reduceAdd, Nat.zero_add, l3, l22, l23, l24])⟩; clear hxs hxd l3 l22 l23 l24
    have hs := P.keeps.size
    have hpro := P.ro
    have rh0 : (h.ro ≤ h.size) = True := by simp; omega
    by_cases hlt : i < l.length
    · have hlt' := lt_cast hlt
      obtain ⟨q1, q2, q3⟩ := dec_meas hlt hm
      obtain ⟨z, hz⟩ : ∃ z, l[i]? = some z := ⟨_, List.getElem?_eq_getElem hlt⟩
      obtain ⟨b2, off2, _, cells2, ow2, part2, ee, hb2, hg2, -, hp2, hle2, hex2, -⟩ := elem_at (s := 5) rl hz rfl (by decide)
      cases ee
      have hp20 := hp2
      obtain ⟨w1, rfl, e1, e2, e3, e4, e5⟩ := R94_inv hp2
      have ow := (Rp.slice Rp.bool).rone e5 w1 (List.mem_singleton.2 rfl)
      have hgb := (P.keeps.get b2 hb2).trans hg2
      have hbb2 : b2 < h.size := by omega
      have hii : (0 ≤ (i : Int)) = True := by simp
      have w3 := i64_succ (i := i) (by omega)
      by_cases h60 : i = 60
      · subst h60
        have h60' : (((60 : Nat) : Int) = 60) = True := by simp
        simp (maxDischargeDepth := 16) only [z04, z05, z06, z08, z09, z0a, z0b, z0d, z0e, z0g, z0j, z0m, z0o, z0p, z0q, z0s, z0t, z0u, z0v, z0w, z0z, z10, z11, z13, z18, z1e, z1f, z1g, z1v, z1w, z1x, z1z, z2b, z2d, z2o, z2u, z2x, z2y, z2z, z34, z3a, z3b, z3c, z3f, z3p, z3v, z3w, z44, z45, z46, z49, z4c, z4e, z4f, z4g, z4h, z4i, z4p, z4q, z4r, z4z, z50, z51, z53, z5a, z5f, z72, evalC_block, Nat.reduceEqDiff, Nat.reduceAdd, Nat.reduceMul, ↓reduceIte, Hp.row, Hp.wr, tElemx88, tPartx94, tSizex94, tZerox94, hlt', hii, hgb, ne_f hbb2, ne_f0 hbb2, lt_t hbb2, lt_t0 hbb2, hle2, hex2, Int.toNat_natCast, rh0, ow, h60']
        exact Al.done (P.keeps.trans (by repeat (first | assumption | exact Keeps.refl _ | refine Keeps.push ?_ _ | refine Keeps.set ?_ (by first | omega | (simp only [Hp.size_push, Hp.size_setB]; omega)) _))) (by simp only [Hp.ro_setB, Hp.ro_push]; exact P.ro) rfl
      · have h60' : ((i : Int) = 60) = False := by simp; omega
        simp (maxDischargeDepth := 16) only [z04, z08, z09, z0a, z0b, z0c, z0d, z0e, z0p, z0q, z0s, z0t, z0u, z0v, z0w, z0x, z0z, z10, z11, z13, z18, z1e, z1f, z1g, z1l, z1v, z1w, z1x, z1z, z2b, z2d, z2o, z2u, z2x, z2y, z2z, z34, z3a, z3b, z3h, z3p, z3v, z3w, z44, z45, z46, z49, z4c, z4e, z4f, z4g, z4h, z4i, z4j, z4k, z4l, z4p, z4q, z4r, z4s, z4u, z4v, z4z, z50, z51, z53, z5a, z5b, z5f, z72, evalC_block, Nat.reduceAdd, ↓reduceIte, Hp.row, Hp.wr, hasBx37, tElemx88, tPartx94, tSizex94, tZerox94, hlt', hii, hgb, ne_f hbb2, ne_f0 hbb2, lt_t hbb2, lt_t0 hbb2, hle2, hex2, Int.toNat_natCast, rh0, ow, h60']
        refine ex_ev (S := fun v h2 => ∃ aw cw, v = .slice aw D.2.1.length cw ∧ Buf k h2 b S D ∧ Asd S h2 h.size #[.int .i64 z.1, .int .i64 z.2.1, .int .i64 z.2.2.1, .int .u8 z.2.2.2.1, w1]) (Al k _) (fun h1 hh1 => ?_) ?_
        · have s1' : h1.size = h.size + 1 := by rw [hh1]; simp only [Hp.size_setB, Hp.size_push]
          have r1' : h1.ro = h.ro := by rw [hh1]; simp only [Hp.ro_setB, Hp.ro_push]
          have k1' : Keeps h h1 := by rw [hh1]; exact (by repeat (first | assumption | exact Keeps.refl _ | refine Keeps.push ?_ _ | refine Keeps.set ?_ (by first | omega | (simp only [Hp.size_push, Hp.size_setB]; omega)) _))
          have a1' : Asd S h1 h.size #[.int .i64 z.1, .int .i64 z.2.1, .int .i64 z.2.2.1, .int .u8 z.2.2.2.1, w1] := ⟨fun hn => by have := (P.disk.own _ hn).2; omega, by omega, by rw [hh1, get_set_self]⟩
          have P1 := P.keep k1' r1'
          refine (run_Pending (N := N) jDkB (by omega) P1.disk).mono ?_
          rintro v h2 ⟨hk2, hr2, q, o, -⟩
          obtain ⟨aw, cw, rfl⟩ := o.form
          rw [List.length_map]
          exact ⟨aw, cw, rfl, P1.keep hk2 hr2, a1'.keep hk2⟩
        rintro _ h2 ⟨aw, cw, rfl, P2, ad2⟩
        have hs2 := P2.keeps.size
        have gd2 := ad2.2.2
        have nd2 := ad2.2.1
        simp (maxDischargeDepth := 16) only [z08, z09, z0d, z0e, z0p, z0q, z0s, z0t, z0v, z0x, z0z, z10, z11, z1e, z1l, z1v, z2x, z3b, z3h, z3x, z3y, z3z, z41, z43, z46, z4e, z4f, z4g, z4h, z4i, z4j, z4k, z4l, z4p, z4q, z4r, z4s, z4u, z4v, z4z, z53, Nat.reduceAdd, Nat.reduceSub, ↓reduceIte, Hp.row, hasBx38, tPartx94, gd2, ne_f nd2, ne_f0 nd2, lt_t nd2, lt_t0 nd2]
        refine ex_any (Al k _) (run_does (N := N) (p := (· < k.size)) jDkB jLwB (by omega) P2.disk (R94.mono hp20 (fun _ h => h) id (P2.keeps.fr fun c hc => hc)) (fun c hc => ⟨by omega, fun hS => by have := P2.new c hS; omega⟩)) ?_
        rintro _ h3 ⟨rfl, st, hf⟩
        have P3 := P2.step (Keeps.refl _) rfl st
        have ad3 := ad2.step (Keeps.refl _) st
        generalize grow S h2 h3 = S3 at P3 ad3
        clear st
        have l2 : (deedS D z).2.1.length = 64 := hf.len
        have l2' : 64 ≤ (deedS D z).2.1.length := by omega
        have t2 : (deedS D z).2.1.take 64 = (deedS D z).2.1 := List.take_of_length_le (by omega)
        have hs3 := P3.keeps.size
        have hr3 := P3.ro
        have r3 : (h3.ro ≤ h3.size) = True := by simp; omega
        have sp64 : ∀ (cs : List Value), cs.length = 64 → ∀ l : List Value, l.length = 64 → splice l.toArray 0 cs = cs.toArray := fun cs h l hl => splice_full (by simp [h, hl])
        have hD2 : (deedS D z).1.1.length = 14 := by rw [deedS_lenB]; exact hD
        simp (maxDischargeDepth := 16) only [z08, z09, z0d, z0e, z0p, z0q, z0s, z0t, z0u, z0v, z0x, z0z, z10, z11, z1a, z1f, z1g, z1l, z1w, z1x, z2o, z2t, z2y, z2z, z34, z3b, z3h, z46, z49, z4c, z4e, z4f, z4g, z4h, z4i, z4j, z4k, z4l, z4m, z4n, z4o, z4p, z4q, z4r, z4s, z4u, z4v, z4z, z53, z72, Nat.reduceAdd, ↓reduceIte, Hp.wr, hasBx37, tSizex98, tZerox98, l2, r3, flat_all1 hf, sp64]
        refine ex_ev (S := fun v h5 => ∃ q an cn, v = .slice an (deedS D z).1.2.1.length cn ∧ OwnC RI h5 v q ((deedS D z).1.2.1.map (·.1)) ∧ Buf k h5 b S3 (deedS D z).1 ∧ Asd S3 h5 h.size #[.int .i64 z.1, .int .i64 z.2.1, .int .i64 z.2.2.1, .int .u8 z.2.2.2.1, w1]) (Al k _) (fun h4 hh4 => ?_) ?_
        · have r4 : h4.ro = h3.ro := by rw [hh4]; simp only [Hp.ro_setB, Hp.ro_push]
          have k4 : Keeps h3 h4 := by rw [hh4]; exact (by repeat (first | assumption | exact Keeps.refl _ | refine Keeps.push ?_ _ | refine Keeps.set ?_ (by first | omega | (simp only [Hp.size_push, Hp.size_setB]; omega)) _))
          have P4 := P3.keep k4 r4
          refine (run_Pending (N := N) jDkB (by omega) P4.disk).mono ?_
          rintro v h5 ⟨hk5, hr5, q, o, -⟩
          obtain ⟨an, cn, rfl⟩ := o.form
          rw [List.length_map] at o ⊢
          exact ⟨q, an, cn, rfl, o, P4.keep hk5 hr5, (ad3.keep k4).keep hk5⟩
        rintro _ h5 ⟨q, an, cn, rfl, oP, P5, ad5⟩
        have wf := P5.disk.wf
        have hs5 := P5.keeps.size
        have hr5 := P5.ro
        have h8r := wf.rows
        generalize hE : (deedS D z).1 = E at *
        simp (maxDischargeDepth := 16) only [z08, z09, z0d, z0e, z0p, z0q, z0s, z0t, z0v, z0w, z0z, z10, z11, z1p, z1r, z3b, z4e, z4f, z4g, z4h, z4i, evalC_block, tLenx95, op_makeMap]
        refine loop_rule (Al k _) (fun m x h' => ∃ (j : Nat), m = E.2.1.length - j ∧ j ≤ E.2.1.length ∧ h'.size = h5.size + 1 ∧ h'.ro = h5.ro ∧ (∀ c, c < h5.size → h'.get c = h5.get c) ∧ h'.get h5.size = some (mBlk (metL (E.2.1.take j))) ∧
          x.tmps.size = 112 ∧ x.defers = [] ∧ x.tmps.getD 3 undef = .pointer (some ⟨b, 0, none⟩) ∧ x.tmps.getD 6 undef = .pointer (some ⟨h.size, 0, none⟩) ∧ x.tmps.getD 7 undef = .slice aw D.2.1.length cw ∧ x.tmps.getD 9 undef = .int .i64 (deedS D z).2.2 ∧ x.tmps.getD 10 undef = .slice an E.2.1.length cn ∧ x.tmps.getD 11 undef = .map (some h5.size) ∧ x.tmps.getD 22 undef = .slice (some ⟨b2, off2, none⟩) l.length cm ∧ x.tmps.getD 23 undef = .int .i64 (l.length : Int) ∧ x.tmps.getD 24 undef = .int .i64 (i : Int) ∧ x.tmps.getD 42 undef = .slice an E.2.1.length cn ∧ x.tmps.getD 43 undef = .int .i64 (E.2.1.length : Int) ∧ x.tmps.getD 44 undef = .int .i64 (j : Int)) ?_ _ E.2.1.length _ _ ?_ ?_
        · intro m' n'' x h' hI' ih'
          obtain ⟨j, hm', hj, hsz, hr', hold, hmp, hxs, hxd, l3, l6, l7, l9, l10, l11, l22, l23, l24, l42, l43, l44⟩ := hI'
          obtain ⟨g, rfl⟩ : ∃ g : Nat → Value, x = { tmps := #[g 0, g 1, g 2, .pointer (some ⟨b, 0, none⟩), g 4, g 5, .pointer (some ⟨h.size, 0, none⟩), .slice aw D.2.1.length cw, g 8, .int .i64 (deedS D z).2.2, .slice an E.2.1.length cn, .map (some h5.size), g 12, g 13, g 14, g 15, g 16, g 17, g 18, g 19, g 20, g 21, .slice (some ⟨b2, off2, none⟩) l.length cm, .int .i64 (l.length : Int), .int .i64 (i : Int), g 25, g 26, g 27, g 28, g 29, g 30, g 31, g 32, g 33, g 34, g 35, g 36, g 37, g 38, g 39, g 40, g 41, .slice an E.2.1.length cn, .int .i64 (E.2.1.length : Int), .int .i64 (j : Int), g 45, g 46, g 47, g 48, g 49, g 50, g 51, g 52, g 53, g 54, g 55, g 56, g 57, g 58, g 59, g 60, g 61, g 62, g 63, g 64, g 65, g 66, g 67, g 68, g 69, g 70, g 71, g 72, g 73, g 74, g 75, g 76, g 77, g 78, g 79, g 80, g 81, g 82, g 83, g 84, g 85, g 86, g 87, g 88, g 89, g 90, g 91, g 92, g 93, g 94, g 95, g 96, g 97, g 98, g 99, g 100, g 101, g 102, g 103, g 104, g 105, g 106, g 107, g 108, g 109, g 110, g 111], defers := [] } := ⟨fun k => x.tmps.getD k undef, (act_eta hxs hxd).trans (by simp only [unrollL, Nat.reduceAdd, Nat.zero_add, l3, l6, l7, l9, l10, l11, l22, l23, l24, l42, l43, l44])⟩; clear hxs hxd l3 l6 l7 l9 l10 l11 l22 l23 l24 l42 l43 l44
          by_cases hlj : j < E.2.1.length
          · have hlj' := lt_cast hlj
            obtain ⟨p1, p2, p3⟩ := dec_meas hlj hm'
            obtain ⟨y, hy⟩ : ∃ y, E.2.1[j]? = some y := ⟨_, List.getElem?_eq_getElem hlj⟩
            obtain ⟨b3, off3, _, cells3, ow3, part3, ee, hb3, hg3, -, hp3, hle3, hex3, hc3⟩ := elem_at (s := 1) (ownFr oP (p := fun c => q = some c) (fun c hc => hc)) (show (E.2.1.map (·.1))[j]? = some y.1 by rw [List.getElem?_map, hy]; rfl) rfl (by decide)
            rw [List.length_map] at ee
            cases ee
            obtain ⟨rfl, -⟩ := Rp.int_inv hp3
            have hlt5 : b3 < h5.size := by subst hb3; exact oP.lt
            have hgb3 := (hold b3 hlt5).trans hg3
            have hbb3 : b3 < h'.size := by omega
            have hjj : (0 ≤ (j : Int)) = True := by simp
            have w4 := i64_succ (i := j) (by omega)
            have h1 := hc3 0 (by omega)
            simp only [Nat.add_zero, Nat.mul_one, List.getElem?_cons_zero] at h1
            have hsec := wf.sec y (List.mem_of_getElem? hy)
            rw [hD2] at hsec
            have hlo : (y.1 < 0) = False := by simp; omega
            have hhi : (14 ≤ y.1) = False := by simp; omega
            have hz0 : pureP Try.prog (zeroValue 4) = some (.bool false) := by kernel_rfl
            have hlk : aLookup Try.prog 101 (.map (some h5.size)) (.int .i64 y.1) false h' = some (.bool false) := by
              rw [lookup_none (kt := 3) (el := 4) (j := .i64) (by kernel_rfl) (by kernel_rfl) hz0 hmp (metL_new hy wf.nod)]; rfl
            have hup := update_new (P := Try.prog) (t := 101) (kt := 3) (el := 4) (v := .bool true) (j := .i64) (by kernel_rfl) (by kernel_rfl) hmp (by omega) (metL_new hy wf.nod)
            rw [← metL_take hy] at hup
            simp (maxDischargeDepth := 16) only [z04, z08, z09, z0a, z0b, z0c, z0d, z0e, z0h, z0k, z0p, z0q, z0r, z0s, z0t, z0u, z0v, z0w, z0z, z10, z11, z12, z13, z18, z1e, z1v, z1x, z1y, z1z, z24, z2d, z2g, z2u, z2x, z3b, z4e, z4f, z4g, z4h, z4i, z4m, z4n, z4o, z50, z51, z52, z59, z5a, z5b, z5e, evalC_block, ↓reduceIte, yielded, Hp.cell, tElemx95, tPartx3, op_mapUpdate, op_lookup, hlk, hlj', hjj, hgb3, ne_f hbb3, ne_f0 hbb3, lt_t hbb3, lt_t0 hbb3, Int.toNat_natCast, Nat.mul_one, h1, hlo, hhi, hup, w4]
            exact ih' (m' - 1) _ _ p1 ⟨j + 1, p2, p3, by simp only [Hp.size_setB]; exact hsz, by simp only [Hp.ro_setB]; exact hr', fun c hc => by rw [get_set_ne (by omega)]; exact hold c hc, get_set_self, rfl, rfl, rfl, rfl, rfl, rfl, rfl, rfl, rfl, rfl, rfl, rfl, rfl, rfl⟩
          · have hlj' := nlt_cast hlj
            obtain rfl : j = E.2.1.length := by omega
            rw [List.take_length] at hmp
            have Ph : Buf k h' b S3 E := ⟨P5.disk.mono (by omega) hr' (fun c hc => hold c (P5.disk.own c hc).2), P5.new, ⟨by omega, fun c hc => by rw [hold c (by omega), P5.keeps.get c hc]⟩, by omega⟩
            have adh : Asd S3 h' h.size #[.int .i64 z.1, .int .i64 z.2.1, .int .i64 z.2.2.1, .int .u8 z.2.2.2.1, w1] := ⟨ad5.1, by have := ad5.2.1; omega, (hold _ ad5.2.1).trans ad5.2.2⟩
            have hsh := Ph.keeps.size
            have gd := adh.2.2
            have nd := adh.2.1
            have h8' : (8 < (E.2.1.length : Int)) = False := by simp; omega
            have nm : h5.size < h'.size := by omega
            have rk : ∀ h'' : Hp, Keeps k h'' → Al h'' (fun _ v => v = .int .u64 (kindN z)) (evalV Try.prog I0 N (.fn 39) #[.agg #[.int .i64 z.1, .int .i64 z.2.1, .int .i64 z.2.2.1, .int .u8 z.2.2.2.1, w1]] h'') := fun h'' hk'' => run_kind jLwB (N := N) (p := (· < k.size)) (x := z) (by omega) (R94.mono hp20 (fun _ h => h) id (hk''.fr fun c hc => hc))
            by_cases he : (deedS D z).2.2 = 0
            · have he' : ((deedS D z).2.2 = 0) = True := by simp [he]
              simp (maxDischargeDepth := 16) only [z06, z08, z09, z0a, z0c, z0d, z0e, z0g, z0j, z0m, z0p, z0q, z0r, z0s, z0t, z0v, z0w, z0x, z0z, z10, z13, z1e, z1l, z1p, z1r, z1v, z2b, z2d, z2f, z2x, z3b, z3h, z3x, z3y, z3z, z41, z43, z46, z4e, z4f, z4g, z4h, z4i, z4j, z4k, z4l, z4m, z4n, z4o, z4p, z4q, z4r, z4s, z4u, z4v, z4z, z52, z53, z5a, z5b, z5e, Nat.reduceAdd, Nat.reduceSub, ↓reduceIte, yielded, Hp.row, hasBx39, tLenx95, tPartx94, hlj', h8', he', gd, ne_f nd, ne_f0 nd, lt_t nd, lt_t0 nd]
              refine ex_any (Al k _) (Al.ex (rk h' Ph.keeps)) ?_
              rintro _ h6 ⟨hk6, hr6, rfl⟩
              have P6 := Ph.keep hk6 hr6
              have ad6 := adh.keep hk6
              have gm6 := (hk6.get _ nm).trans hmp
              have gd6 := ad6.2.2
              have nd6 := ad6.2.1
              have nm6 : h5.size < h6.size := by have := hk6.size; omega
              have ex9 : ∀ (a : Bool), True := fun _ => trivial
              by_cases hk5 : kindN z < 5
              · have hk5' : (kindN z < 5) = True := by simp [hk5]
                have k6' : (kindN z = 6) = False := by simp; omega
                have k9' : (kindN z = 9) = False := by simp; omega
                obtain ⟨y, hy, ey⟩ := deed_wrote hk5 he
                rw [hE] at hy
                obtain ⟨qy, hqy⟩ := List.getElem?_of_mem hy
                have hlk : aLookup Try.prog 101 (.map (some h5.size)) (.int .i64 z.2.1) false h6 = some (.bool true) := by
                  rw [lookup_some (kt := 3) (el := 4) (j := .i64) (q := qy) (v := .bool true) (by kernel_rfl) (by kernel_rfl) gm6 (by rw [metL, List.getElem?_map, hqy, ← ey]; rfl) (fun q' y' hq' hy' e => ?_)]; rfl
                  rw [metL, List.getElem?_map, Option.map_eq_some_iff] at hy'
                  obtain ⟨r', hr', rfl⟩ := hy'
                  have e1 : (E.2.1.map (·.1))[q']? = some z.2.1 := by rw [List.getElem?_map, hr']; simpa using e
                  have e2 : (E.2.1.map (·.1))[qy]? = some z.2.1 := by rw [List.getElem?_map, hqy]; simpa using ey
                  have h1 := (List.getElem?_eq_some_iff.1 e1).1
                  have := (List.getElem?_inj h1 wf.nod).1 (e1.trans e2.symm)
                  omega
                simp (maxDischargeDepth := 16) only [z0q, z0r, z0s, z0t, z0v, z0w, z0x, z0z, z10, z12, z13, z14, z16, z1e, z1l, z1v, z1y, z2b, z2c, z2d, z2h, z2w, z2x, z3b, z3h, z3l, z3x, z3y, z3z, z41, z43, z46, z4e, z4f, z4g, z4h, z4i, z4j, z4k, z4l, z4m, z4n, z4o, z4p, z4q, z4r, z4s, z4u, z4v, z4z, z50, z51, z52, z53, z59, z5a, z5c, z5e, Nat.reduceAdd, Nat.reduceSub, ↓reduceIte, yielded, Hp.cell, Hp.row, hasBx39, tFieldAx94x1, tPartx3, tPartx94, op_lookup, hlk, hk5', he', gd6, ne_f nd6, ne_f0 nd6, lt_t nd6, lt_t0 nd6]
                refine ex_any (Al k _) (Al.ex (rk h6 P6.keeps)) ?_
                rintro _ h7 ⟨hk7, hr7, rfl⟩
                have P7 := P6.keep hk7 hr7
                have ad7 := ad6.keep hk7
                have gd7 := ad7.2.2
                have nd7 := ad7.2.1
                simp (maxDischargeDepth := 16) only [z0r, z0s, z0t, z0v, z0w, z0x, z0z, z10, z13, z1e, z1l, z1v, z2b, z2x, z3b, z3h, z3x, z3y, z3z, z41, z43, z46, z4e, z4f, z4g, z4h, z4i, z4j, z4k, z4l, z4m, z4n, z4o, z4p, z4q, z4r, z4s, z4u, z4v, z4z, z52, z53, z5b, z5e, Nat.reduceAdd, Nat.reduceSub, ↓reduceIte, yielded, Hp.row, hasBx39, tPartx94, k6', gd7, ne_f nd7, ne_f0 nd7, lt_t nd7, lt_t0 nd7]
                refine ex_any (Al k _) (Al.ex (rk h7 P7.keeps)) ?_
                rintro _ h8 ⟨hk8, hr8, rfl⟩
                have P8 := P7.keep hk8 hr8
                simp (maxDischargeDepth := 16) only [z04, z08, z0a, z0c, z0d, z0e, z0h, z0k, z0p, z0q, z0r, z0s, z0t, z0v, z0w, z0z, z10, z12, z13, z1y, z24, z2b, z3b, z3l, z4e, z4f, z4g, z4h, z4i, z4m, z4n, z4o, z52, z59, z5b, z5e, ↓reduceIte, yielded, k9', w3]
                exact ih (m - 1) _ _ q1 ⟨i + 1, E, S3, q2, q3, hD2, P8, rfl, rfl, rfl, rfl, rfl, rfl⟩
              · have hk5' : (kindN z < 5) = False := by simp [hk5]
                simp (maxDischargeDepth := 16) only [z0q, z0r, z0s, z0t, z0v, z0w, z0x, z0z, z10, z12, z13, z1e, z1l, z1v, z1y, z2b, z2c, z2d, z2x, z3b, z3h, z3l, z3x, z3y, z3z, z41, z43, z46, z4e, z4f, z4g, z4h, z4i, z4j, z4k, z4l, z4m, z4n, z4o, z4p, z4q, z4r, z4s, z4u, z4v, z4z, z52, z53, z59, z5a, z5b, z5c, z5e, Nat.reduceAdd, Nat.reduceSub, ↓reduceIte, yielded, Hp.row, hasBx39, tPartx94, hk5', he', gd6, ne_f nd6, ne_f0 nd6, lt_t nd6, lt_t0 nd6]
                refine ex_any (Al k _) (Al.ex (rk h6 P6.keeps)) ?_
                rintro _ h7 ⟨hk7, hr7, rfl⟩
                have P7 := P6.keep hk7 hr7
                have ad7 := ad6.keep hk7
                have gd7 := ad7.2.2
                have nd7 := ad7.2.1
                by_cases hk6 : kindN z = 6
                · have k6' : (kindN z = 6) = True := by simp [hk6]
                  have e0 : ((E.2.1.length : Int) = 0) = True := by
                    have := deed_empty (.inl hk6) he
                    rw [hE] at this
                    simp [this]
                  simp (maxDischargeDepth := 16) only [z04, z08, z0a, z0c, z0d, z0e, z0h, z0k, z0p, z0q, z0r, z0s, z0t, z0v, z0w, z0z, z10, z12, z13, z1p, z1r, z1y, z24, z2b, z2c, z3b, z3k, z4e, z4f, z4g, z4h, z4i, z4m, z4n, z4o, z52, z59, z5a, z5c, z5e, ↓reduceIte, yielded, tLenx95, k6', e0, w3]
                  exact ih (m - 1) _ _ q1 ⟨i + 1, E, S3, q2, q3, hD2, P7, rfl, rfl, rfl, rfl, rfl, rfl⟩
                · have k6' : (kindN z = 6) = False := by simp [hk6]
                  simp (maxDischargeDepth := 16) only [z0r, z0s, z0t, z0v, z0w, z0x, z0z, z10, z13, z1e, z1l, z1v, z2b, z2x, z3b, z3h, z3x, z3y, z3z, z41, z43, z46, z4e, z4f, z4g, z4h, z4i, z4j, z4k, z4l, z4m, z4n, z4o, z4p, z4q, z4r, z4s, z4u, z4v, z4z, z52, z53, z5b, z5e, Nat.reduceAdd, Nat.reduceSub, ↓reduceIte, yielded, Hp.row, hasBx39, tPartx94, k6', gd7, ne_f nd7, ne_f0 nd7, lt_t nd7, lt_t0 nd7]
                  refine ex_any (Al k _) (Al.ex (rk h7 P7.keeps)) ?_
                  rintro _ h8 ⟨hk8, hr8, rfl⟩
                  have P8 := P7.keep hk8 hr8
                  by_cases hk9 : kindN z = 9
                  · have k9' : (kindN z = 9) = True := by simp [hk9]
                    have e0 : ((E.2.1.length : Int) = 0) = True := by
                      have := deed_empty (.inr hk9) he
                      rw [hE] at this
                      simp [this]
                    simp (maxDischargeDepth := 16) only [z04, z08, z0a, z0c, z0d, z0e, z0h, z0k, z0p, z0q, z0r, z0s, z0t, z0v, z0w, z0z, z10, z12, z13, z1p, z1r, z1y, z24, z2b, z2c, z3b, z4e, z4f, z4g, z4h, z4i, z4m, z4n, z4o, z52, z59, z5a, z5c, z5e, ↓reduceIte, yielded, tLenx95, k9', e0, w3]
                    exact ih (m - 1) _ _ q1 ⟨i + 1, E, S3, q2, q3, hD2, P8, rfl, rfl, rfl, rfl, rfl, rfl⟩
                  · have k9' : (kindN z = 9) = False := by simp [hk9]
                    simp (maxDischargeDepth := 16) only [z04, z08, z0a, z0c, z0d, z0e, z0h, z0k, z0p, z0q, z0r, z0s, z0t, z0v, z0w, z0z, z10, z12, z13, z1y, z24, z2b, z3b, z3l, z4e, z4f, z4g, z4h, z4i, z4m, z4n, z4o, z52, z59, z5b, z5e, ↓reduceIte, yielded, k9', w3]
                    exact ih (m - 1) _ _ q1 ⟨i + 1, E, S3, q2, q3, hD2, P8, rfl, rfl, rfl, rfl, rfl, rfl⟩
            · have he' : ((deedS D z).2.2 = 0) = False := by simp [he]
              have hl : ((E.2.1.length : Int) = (D.2.1.length : Int)) = True := by
                have := deed_len he
                rw [hE] at this
                simp [this]
              simp (maxDischargeDepth := 16) only [z06, z08, z09, z0a, z0c, z0d, z0e, z0g, z0j, z0m, z0p, z0q, z0r, z0s, z0t, z0v, z0w, z0z, z10, z13, z1e, z1p, z1r, z1v, z2b, z2d, z2f, z2x, z3b, z4e, z4f, z4g, z4h, z4i, z4m, z4n, z4o, z52, z53, z5b, z5e, ↓reduceIte, yielded, Hp.row, tLenx95, tPartx94, hlj', h8']
              simp (maxDischargeDepth := 16) only [z0q, z0r, z0s, z0t, z0v, z0w, z0z, z10, z12, z13, z1p, z1r, z1y, z2c, z3b, z3l, z4e, z4f, z4g, z4h, z4i, z4m, z4n, z4o, z52, z59, z5b, z5d, z5e, ↓reduceIte, yielded, tLenx95, he']
              simp (maxDischargeDepth := 16) only [z0r, z0s, z0t, z0v, z0w, z0z, z10, z13, z1e, z1v, z2b, z2x, z3b, z3l, z4e, z4f, z4g, z4h, z4i, z4m, z4n, z4o, z52, z53, z59, z5a, z5b, z5c, z5e, ↓reduceIte, yielded, Hp.row, tPartx94, he', hl]
              simp only [undef]
              simp (maxDischargeDepth := 16) only [z04, z08, z0a, z0c, z0d, z0e, z0h, z0k, z0p, z0q, z0r, z0s, z0t, z0v, z0w, z0z, z10, z12, z13, z1y, z24, z3b, z3l, z3o, z4e, z4f, z4g, z4h, z4i, z4m, z4n, z4o, z52, z59, z5e, ↓reduceIte, yielded, w3]
              exact ih (m - 1) _ _ q1 ⟨i + 1, E, S3, q2, q3, hD2, Ph, rfl, rfl, rfl, rfl, rfl, rfl⟩
        · omega
        · exact ⟨0, by omega, by omega, by simp only [Hp.size_push], by simp only [Hp.ro_push], fun c hc => get_push_ne (by omega), by rw [Hp.get_push, if_pos rfl]; rfl, rfl, rfl, rfl, rfl, rfl, rfl, rfl, rfl, rfl, rfl, rfl, rfl, rfl, rfl⟩
    · have hlt' := nlt_cast hlt
      simp (maxDischargeDepth := 16) only [z05, z06, z08, z09, z0a, z0c, z0d, z0e, z0g, z0j, z0m, z0o, z0p, z0q, z0s, z0t, z0v, z0w, z0z, z11, z13, z2d, z3b, z3c, z3f, z4e, z4f, z4g, z4h, z4i, z4z, z5b, ↓reduceIte, hlt']
      exact Al.done P.keeps P.ro rfl
  · omega
  · exact ⟨0, newS 14, _, by omega, by omega, rfl, ⟨d1, fun c hc => by have := hc.1; omega, hk0.trans hk1, by omega⟩, rfl, rfl, rfl, rfl, rfl, rfl⟩
end
end Go.Abs.B1
