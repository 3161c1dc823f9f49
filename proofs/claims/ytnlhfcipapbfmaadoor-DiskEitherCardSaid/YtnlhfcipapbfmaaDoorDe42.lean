/- Behind a crash each sector shows what it showed, or what the plate held. -/
import Derived.Test.YtnlhfcipapbfmaaDoorDe40
import Derived.Test.YtnlhfcipapbfmaaDoorAbsE
namespace Go.Abs.B1d
open Go.Proofs
set_option maxRecDepth 10000
set_option maxHeartbeats 8000000
set_option linter.all false
/-- The plain law. -/
theorem down_miss {f : Nat → Bool} {i : Nat} : ∀ (rs : List T62) (P : List (List Value)) (n : Nat), (∀ r ∈ rs, 0 ≤ r.1 ∧ r.1 ≠ (i : Int)) → (downL f P rs n)[i]? = P[i]?
  | [], P, n, _ => rfl
  | r :: rs, P, n, h => by
    rw [downL, down_miss rs _ (n + 1) fun s hs => h s (List.mem_cons_of_mem _ hs)]
    split
    · have := h r List.mem_cons_self
      rw [List.getElem?_set_ne (by omega)]
    · rfl
theorem down_hit {f : Nat → Bool} {i : Nat} : ∀ (rs : List T62) (P : List (List Value)) (n q : Nat) (r : T62), i < P.length → rs[q]? = some r → r.1 = (i : Int) → (∀ r ∈ rs, 0 ≤ r.1) → (rs.map (·.1)).Nodup → (downL f P rs n)[i]? = if f (n + q) = true then some r.2 else P[i]?
  | [], P, n, q, r, _, h, _, _, _ => by simp at h
  | s :: rs, P, n, 0, r, hi, h, hr, h0, hn => by
    simp only [List.getElem?_cons_zero, Option.some.injEq] at h
    subst h
    rw [List.map_cons, List.nodup_cons] at hn
    rw [downL, down_miss rs _ (n + 1) fun r hr' => ⟨h0 r (List.mem_cons_of_mem _ hr'), fun e => hn.1 (by rw [hr, ← e]; exact List.mem_map_of_mem hr')⟩]
    rw [Nat.add_zero]
    split
    · rw [hr, Int.toNat_natCast, List.getElem?_set_self hi]
    · rfl
  | s :: rs, P, n, q + 1, r, hi, h, hr, h0, hn => by
    simp only [List.getElem?_cons_succ] at h
    rw [List.map_cons, List.nodup_cons] at hn
    have hs : s.1 ≠ (i : Int) := fun e => hn.1 (by rw [e, ← hr]; exact List.mem_map_of_mem (List.mem_of_getElem? h))
    have hs0 := h0 s List.mem_cons_self
    rw [downL, down_hit rs _ (n + 1) q r (by split <;> simp [hi]) h hr (fun r hr' => h0 r (List.mem_cons_of_mem _ hr')) hn.2]
    rw [show n + 1 + q = n + (q + 1) by omega]
    split
    · rfl
    · split
      · rw [List.getElem?_set_ne (by omega)]
      · rfl
theorem either {D : DV} (wf : WF D) (h14 : D.1.length = 14) {j : Nat} (hj : j < 14) :
    ((∀ r : T62, r ∈ D.2.1 → r.1 ≠ (j : Int)) ∧ ∀ ks ks', (crashS D ks).1[j]? = (crashS D ks').1[j]?) ∨
    ∃ (q : Nat) (r : T62), D.2.1[q]? = some r ∧ r.1 = (j : Int) ∧ (∀ ks, (ks[q]?).getD false = true → (crashS D ks).1[j]? = (crashS D (List.replicate 8 true)).1[j]?) ∧ (∀ ks, (ks[q]?).getD false = false → (crashS D ks).1[j]? = (crashS D []).1[j]?) := by
  have h0 : ∀ r ∈ D.2.1, 0 ≤ r.1 := fun r hr => (wf.sec r hr).1
  by_cases h : ∃ r ∈ D.2.1, r.1 = (j : Int)
  · obtain ⟨r, hr, e⟩ := h
    obtain ⟨q, hq⟩ := List.getElem?_of_mem hr
    have hq8 := (List.getElem?_eq_some_iff.1 hq).1
    have hw := wf.rows
    have key : ∀ ks, (crashS D ks).1[j]? = if (ks[q]?).getD false = true then some r.2 else D.1[j]? := fun ks => by
      have := down_hit (f := fun i => (ks[i]?).getD false) (i := j) D.2.1 D.1 0 q r (by omega) hq e h0 wf.nod
      rw [Nat.zero_add] at this
      exact this
    refine .inr ⟨q, r, hq, e, fun ks h => ?_, fun ks h => ?_⟩
    · have e8 : ((List.replicate 8 true)[q]?).getD false = true := by rw [List.getElem?_replicate, if_pos (by omega)]; rfl
      rw [key ks, key (List.replicate 8 true), if_pos h, if_pos e8]
    · rw [key ks, key [], if_neg (by rw [h]; decide)]; rfl
  · have hn : ∀ r ∈ D.2.1, r.1 ≠ (j : Int) := fun r hr e => h ⟨r, hr, e⟩
    refine .inl ⟨hn, fun ks ks' => ?_⟩
    have key : ∀ ks, (crashS D ks).1[j]? = D.1[j]? := fun ks => down_miss D.2.1 D.1 0 fun r hr => ⟨h0 r hr, hn r hr⟩
    rw [key, key]
/-- The places of the rows, by their sectors. -/
def rowsL : List T62 → Nat → List (Int × Value)
  | [], _ => []
  | r :: rs, n => (r.1, .int .i64 (n : Int)) :: rowsL rs (n + 1)
theorem rowsL_len : ∀ (rs : List T62) (n : Nat), (rowsL rs n).length = rs.length
  | [], n => rfl
  | r :: rs, n => by simp [rowsL, rowsL_len rs]
theorem rowsL_get : ∀ (rs : List T62) (n q : Nat), (rowsL rs n)[q]? = (rs[q]?).map fun r => (r.1, Value.int .i64 ((n + q : Nat) : Int))
  | [], n, q => by simp [rowsL]
  | r :: rs, n, 0 => by simp [rowsL]
  | r :: rs, n, q + 1 => by
    simp only [rowsL, List.getElem?_cons_succ]
    rw [rowsL_get rs (n + 1) q, show n + 1 + q = n + (q + 1) by omega]
theorem rowsL_take {rs : List T62} {i : Nat} {r : T62} (h : rs[i]? = some r) : rowsL (rs.take (i + 1)) 0 = rowsL (rs.take i) 0 ++ [(r.1, .int .i64 (i : Int))] := by
  have hi := (List.getElem?_eq_some_iff.1 h).1
  apply List.ext_getElem?
  intro j
  rw [rowsL_get]
  rcases Nat.lt_trichotomy j i with hj | hj | hj
  · rw [List.getElem?_append_left (by rw [rowsL_len, List.length_take]; omega), rowsL_get, List.getElem?_take, List.getElem?_take, if_pos (by omega), if_pos hj]
  · subst hj
    rw [List.getElem?_append_right (by rw [rowsL_len, List.length_take]; omega), rowsL_len, List.length_take, List.getElem?_take, if_pos (by omega), h, show j - min j rs.length = 0 by omega]
    simp
  · rw [List.getElem?_take, if_neg (by omega), List.getElem?_eq_none (by rw [List.length_append, rowsL_len, List.length_take]; simp; omega)]; rfl
theorem rowsL_new {rs : List T62} {i : Nat} {r : T62} (h : rs[i]? = some r) (hn : (rs.map (·.1)).Nodup) : ∀ p ∈ rowsL (rs.take i) 0, p.1 ≠ r.1 := by
  intro p hp
  obtain ⟨j, hj⟩ := List.getElem?_of_mem hp
  rw [rowsL_get, List.getElem?_take] at hj
  split at hj
  · rename_i hlt
    rw [Option.map_eq_some_iff] at hj
    obtain ⟨s, hs, rfl⟩ := hj
    intro e
    have e1 : (rs.map (·.1))[j]? = some r.1 := by rw [List.getElem?_map, hs]; simpa using e
    have e2 : (rs.map (·.1))[i]? = some r.1 := by rw [List.getElem?_map, h]; rfl
    have hi := (List.getElem?_eq_some_iff.1 e2).1
    have := (List.getElem?_inj (by omega) hn).1 (e1.trans e2.symm)
    omega
  · cases hj
section
variable {k : Hp}
/-- A map aside of the disk. -/
def AsideM (S : Nat → Prop) (h : Hp) (c : Nat) (l : List (Int × Value)) : Prop := ¬ S c ∧ c < h.size ∧ h.get c = some (mBlk l)
theorem AsideM.keep {S : Nat → Prop} {h h1 : Hp} {c : Nat} {l : List (Int × Value)} (x : AsideM S h c l) (hk : Keeps h h1) : AsideM S h1 c l := ⟨x.1, by have := x.2.1; have := hk.size; omega, (hk.get _ x.2.1).trans x.2.2⟩
theorem run3 {vl vk va : Value} {l : List T42} {ks : List Bool} {oa : Bool} (rl : R22.r false (· < k.size) k [vl] l) (rk : (Rp.slice Rp.bool).r false (· < k.size) k [vk] ks) (hro : k.ro ≤ k.size)
    (hg : k.get 0 = some (.cells #[va] oa)) (hg0 : 0 < k.size) (ra : (Rp.slice Rp.bool).r false (· < k.size) k [va] (List.replicate 8 true)) :
    ∃ N, Al k (fun _ w => w = .bool true) (evalV Tryd.prog I0 N (.fn 3) #[vl, vk] k) := by
  refine ⟨l.length + 400 + 1, ?_⟩
  generalize hN : l.length + 400 = N
  generalize hal : List.replicate 8 true = al at ra
  have oa1 := (Rp.slice Rp.bool).rone ra va (List.mem_singleton.2 rfl)
  obtain ⟨aa, ca, rfl, -, -⟩ := slice_form ra
  have ok := (Rp.slice Rp.bool).rone rk vk (List.mem_singleton.2 rfl)
  obtain ⟨u30, hsl⟩ := slice_front (P := Tryd.prog) (e := Rp.bool) (t := 23) (hh := min ks.length 30) (hiv := some (.int .i64 (min (ks.length : Int) 30))) rk (by kernel_rfl) (by decide) ⟨.i64, by congr 1; omega⟩ (by omega)
  generalize ks.take (min ks.length 30) = k30 at hsl
  obtain ⟨ak, ck, rfl, -, -⟩ := slice_form rk
  have r30 := (hsl k (Fr.refl _)).2
  have o30 := (Rp.slice Rp.bool).rone r30 u30 (List.mem_singleton.2 rfl)
  obtain ⟨a30, c30, rfl, -, -⟩ := slice_form r30
  have h0 : I0 3 = none := rfl
  rw [evalV_call (P := Tryd.prog) (intr := I0) (f := 3) (m := 119) (rs := #[.tmp 4]) h0 Tryd.func3 rfl rfl rfl]
  simp (maxDischargeDepth := 16) only [z08, z09, z0d, z0e, z0p, z0q, z0s, z0t, z0w, z0x, z11, z1l, z3h, z4g, z4h, z4i, z4j, z4l, z4p, z4q, z4r, z4s, z4t, z4u, z4v, z4w, z4x, z4y, z53, Nat.reduceAdd, Nat.reduceSub, ↓reduceIte, hasBx6]
  refine ex_any (Al k _) (Al.ex (run_wakes jDk rfl (by omega) hro)) ?_
  rintro _ k0 ⟨hk0, hr0, rfl⟩
  have s0 := hk0.size
  simp (maxDischargeDepth := 16) only [z04, z08, z09, z0a, z0c, z0d, z0e, z0p, z0q, z0s, z0t, z0v, z0x, z0z, z10, z14, z1l, z2h, z3b, z3h, z4e, z4f, z4g, z4h, z4i, z4j, z4k, z4l, z4s, z4u, z4v, z5c, ↓reduceIte, hasBx7]
  refine ex_any (Al k _) (Al.ex (run_played (N := N) (p := (· < k.size)) (by omega) (R22.mono rl (fun _ h => h) id (hk0.fr fun c hc => hc)) (fun c hc => by omega) (by omega))) ?_
  rintro _ k1 ⟨hk1, hr1, b, S, D, rfl, d, hS, h14⟩
  have s1 := hk1.size
  have P1 : Two k k1 b S D := ⟨d, fun c hc => by have := hS c hc; omega, hk0.trans hk1, by omega⟩
  clear hS d
  have wf := P1.disk.wf
  have g1 := (P1.keeps.get 0 hg0).trans hg
  have n1 : 0 < k1.size := by omega
  have hu := (hsl _ (P1.keeps.fr fun c hc => hc)).1
  have zsz := zero30_size
  simp (maxDischargeDepth := 16) only [z04, z08, z09, z0a, z0c, z0d, z0e, z0p, z0q, z0s, z0t, z0v, z0w, z0x, z0y, z0z, z10, z11, z14, z1a, z1e, z1k, z1l, z1p, z1r, z1u, z1v, z2h, z2l, z2t, z2x, z3b, z3h, z4e, z4f, z4g, z4h, z4i, z4j, z4k, z4l, z4m, z4n, z4o, z4s, z4u, z4v, z4z, z5c, z87, ↓reduceIte, Hp.cell, hasBx8, tLenx23, tPartx23, g1, ne_f n1, ne_f0 n1, lt_t n1, lt_t0 n1, hu]
  refine ex_any (Al k _) (Al.ex (run_shown (N := N) (p := (· < k.size)) P1.disk h14 ((Rp.slice Rp.bool).mono ra (fun _ h => h) id (P1.keeps.fr fun c hc => hc)) (fun c hc => by omega) (by omega))) ?_
  rintro _ k3 ⟨hk3, hr3, rfl, lA, oA, -⟩
  have P3 := P1.keep hk3 hr3
  have hs3 := P3.keeps.size
  have hro3 := P3.ro
  have r3 : (k3.ro ≤ k3.size) = True := by simp; omega
  have lA' : 896 ≤ (shownS D al).length := by omega
  have tA : (shownS D al).take 896 = shownS D al := List.take_of_length_le (by omega)
  have spA : splice zero30 0 (shownS D al) = (shownS D al).toArray := splice_full (by rw [zsz, lA])
  simp (maxDischargeDepth := 16) only [z08, z09, z0d, z0e, z0p, z0q, z0s, z0t, z0u, z0v, z0w, z0x, z0z, z10, z11, z1a, z1f, z1g, z1l, z1w, z1x, z2o, z2t, z2y, z2z, z34, z3b, z3h, z46, z49, z4c, z4e, z4f, z4g, z4h, z4i, z4j, z4k, z4l, z4m, z4n, z4o, z4p, z4s, z4u, z4v, z4z, z53, z72, ↓reduceIte, Hp.wr, hasBx8, tSizex30, tZerox30, r3, lA, oA, zsz, spA]
  refine ex_ev (S := fun v h => v = .tuple #[.agg (shownS D []).toArray, .bool true] ∧ Two k h b S D ∧ Aside S h k3.size (shownS D al).toArray ∧ (shownS D []).length = 896 ∧ (shownS D []).all oneC = true) (Al k _) (fun h4 hh4 => ?_) ?_
  · have k4 : Keeps k3 h4 := by rw [hh4]; exact (by repeat (first | assumption | exact Keeps.refl _ | refine Keeps.push ?_ _ | refine Keeps.set ?_ (by first | omega | (simp only [Hp.size_push, Hp.size_setB]; omega)) _))
    have r4 : h4.ro = k3.ro := by rw [hh4]; simp only [Hp.ro_setB, Hp.ro_push]
    have P4 := P3.keep k4 r4
    have a4 : Aside S h4 k3.size (shownS D al).toArray := ⟨fun hn => by have := (P3.disk.own _ hn).2; omega, by rw [hh4]; simp only [Hp.size_setB, Hp.size_push]; omega, by rw [hh4, get_set_self]⟩
    refine (Al.ex (run_shown (N := N) (p := nop) (ks := []) P4.disk h14 (ownFr OwnC.nil (fun c h => by cases h)) (fun c hc => hc.elim) (by omega))).mono ?_
    rintro v h5 ⟨hk5, hr5, rfl, l5, o5, -⟩
    exact ⟨rfl, P4.keep hk5 hr5, a4.keep hk5, l5, o5⟩
  rintro _ k5 ⟨rfl, P5, aA5, lB, oB⟩
  have hs5 := P5.keeps.size
  have hro5 := P5.ro
  have r5 : (k5.ro ≤ k5.size) = True := by simp; omega
  have lB' : 896 ≤ (shownS D []).length := by omega
  have tB : (shownS D []).take 896 = shownS D [] := List.take_of_length_le (by omega)
  have spB : splice zero30 0 (shownS D []) = (shownS D []).toArray := splice_full (by rw [zsz, lB])
  simp (maxDischargeDepth := 16) only [z08, z09, z0d, z0e, z0p, z0q, z0s, z0t, z0u, z0v, z0x, z0z, z10, z11, z1a, z1f, z1g, z1l, z1w, z1x, z2o, z2t, z2y, z2z, z34, z3b, z3h, z46, z49, z4c, z4e, z4f, z4g, z4h, z4i, z4j, z4k, z4l, z4m, z4n, z4o, z4p, z4s, z4u, z4v, z4z, z53, z72, ↓reduceIte, Hp.wr, hasBx8, tSizex30, tZerox30, r5, lB, oB, zsz, spB]
  refine ex_ev (S := fun v h => v = .tuple #[.agg (shownS D k30).toArray, .bool true] ∧ Two k h b S D ∧ Aside S h k3.size (shownS D al).toArray ∧ Aside S h k5.size (shownS D []).toArray ∧ (shownS D k30).length = 896 ∧ (shownS D k30).all oneC = true) (Al k _) (fun h6 hh6 => ?_) ?_
  · have k6 : Keeps k5 h6 := by rw [hh6]; exact (by repeat (first | assumption | exact Keeps.refl _ | refine Keeps.push ?_ _ | refine Keeps.set ?_ (by first | omega | (simp only [Hp.size_push, Hp.size_setB]; omega)) _))
    have r6 : h6.ro = k5.ro := by rw [hh6]; simp only [Hp.ro_setB, Hp.ro_push]
    have P6 := P5.keep k6 r6
    have a6 : Aside S h6 k5.size (shownS D []).toArray := ⟨fun hn => by have := (P5.disk.own _ hn).2; omega, by rw [hh6]; simp only [Hp.size_setB, Hp.size_push]; omega, by rw [hh6, get_set_self]⟩
    refine (Al.ex (run_shown (N := N) (p := (· < k.size)) P6.disk h14 (hsl _ (P6.keeps.fr fun c hc => hc)).2 (fun c hc => by have := P6.keeps.size; omega) (by omega))).mono ?_
    rintro v h7 ⟨hk7, hr7, rfl, l7, o7, -⟩
    exact ⟨rfl, P6.keep hk7 hr7, (aA5.keep k6).keep hk7, a6.keep hk7, l7, o7⟩
  rintro _ k7 ⟨rfl, P7, aA7, aB7, lC, oC⟩
  have hs7 := P7.keeps.size
  have hro7 := P7.ro
  have r7 : (k7.ro ≤ k7.size) = True := by simp; omega
  have lC' : 896 ≤ (shownS D k30).length := by omega
  have tC : (shownS D k30).take 896 = shownS D k30 := List.take_of_length_le (by omega)
  have spC : splice zero30 0 (shownS D k30) = (shownS D k30).toArray := splice_full (by rw [zsz, lC])
  simp (maxDischargeDepth := 16) only [z04, z08, z09, z0a, z0c, z0d, z0e, z0p, z0q, z0r, z0s, z0t, z0u, z0v, z0w, z0x, z0z, z10, z11, z12, z14, z1a, z1f, z1g, z1l, z1w, z1x, z1y, z2h, z2o, z2t, z2y, z2z, z34, z3b, z3h, z46, z49, z4a, z4b, z4c, z4e, z4f, z4g, z4h, z4i, z4j, z4k, z4l, z4m, z4n, z4o, z4p, z4s, z4u, z4v, z4z, z52, z53, z59, z5c, z5e, z72, ↓reduceIte, yielded, Hp.wr, hasBx9, tSizex30, tZerox30, op_makeMap, r7, lC, oC, zsz, spC]
  refine ex_ev (S := fun v h => ∃ q ap cp, v = .slice ap D.2.1.length cp ∧ OwnC RI h v q (D.2.1.map (·.1)) ∧ (∀ c, q = some c → c ≠ k7.size + 1) ∧ Two k h b S D ∧ Aside S h k3.size (shownS D al).toArray ∧ Aside S h k5.size (shownS D []).toArray ∧ Aside S h k7.size (shownS D k30).toArray ∧ AsideM S h (k7.size + 1) []) (Al k _) (fun h8 hh8 => ?_) ?_
  · have k8 : Keeps k7 h8 := by rw [hh8]; exact (by repeat (first | assumption | exact Keeps.refl _ | refine Keeps.push ?_ _ | refine Keeps.set ?_ (by first | omega | (simp only [Hp.size_push, Hp.size_setB]; omega)) _))
    have r8 : h8.ro = k7.ro := by rw [hh8]; simp only [Hp.ro_setB, Hp.ro_push]
    have s8 : h8.size = k7.size + 2 := by rw [hh8]; simp only [Hp.size_setB, Hp.size_push]
    have P8 := P7.keep k8 r8
    have a8 : Aside S h8 k7.size (shownS D k30).toArray := ⟨fun hn => by have := (P7.disk.own _ hn).2; omega, by omega, by rw [hh8, get_push_ne (by simp only [Hp.size_setB, Hp.size_push]; omega), get_set_self]⟩
    have m8 : AsideM S h8 (k7.size + 1) [] := ⟨fun hn => by have := (P7.disk.own _ hn).2; omega, by omega, by rw [hh8, mBlk_nil, Hp.get_push, if_pos (by simp only [Hp.size_setB, Hp.size_push])]⟩
    refine (run_Pending (N := N) jDk (by omega) P8.disk).mono ?_
    rintro v h9 ⟨hk9, hr9, q, o, hq⟩
    obtain ⟨ap, cp, rfl⟩ := o.form
    rw [List.length_map] at o ⊢
    have := hk9.size
    exact ⟨q, ap, cp, rfl, o, fun c hc => by have := hq c hc; omega, P8.keep hk9 hr9, (aA7.keep k8).keep hk9, (aB7.keep k8).keep hk9, a8.keep hk9, m8.1, by have := m8.2.1; omega, (hk9.get _ m8.2.1).trans m8.2.2⟩
  rintro _ k9 ⟨q, ap, cp, rfl, oP, hq, P9, aA9, aB9, aC9, aM9⟩
  have hs9 := P9.keeps.size
  have hro9 := P9.ro
  have h8r := wf.rows
  simp (maxDischargeDepth := 16) only [z0d, z0e, z0p, z0q, z0s, z0t, z0v, z0w, z0z, z10, z1p, z1r, z3b, z4e, z4f, z4g, z4h, z4i, evalC_block, tLenx34]
  refine loop_rule (Al k _) (fun m x h => ∃ (i : Nat), m = D.2.1.length - i ∧ i ≤ D.2.1.length ∧ h.size = k9.size ∧ h.ro = k9.ro ∧ (∀ c, c < k9.size → c ≠ k7.size + 1 → h.get c = k9.get c) ∧ h.get (k7.size + 1) = some (mBlk (rowsL (D.2.1.take i) 0)) ∧
    x.tmps.size = 119 ∧ x.defers = [] ∧ x.tmps.getD 1 undef = .slice a30 k30.length c30 ∧ x.tmps.getD 5 undef = .pointer (some ⟨b, 0, none⟩) ∧ x.tmps.getD 7 undef = .pointer (some ⟨k3.size, 0, none⟩) ∧ x.tmps.getD 9 undef = .pointer (some ⟨k5.size, 0, none⟩) ∧ x.tmps.getD 11 undef = .pointer (some ⟨k7.size, 0, none⟩) ∧ x.tmps.getD 13 undef = .map (some (k7.size + 1)) ∧ x.tmps.getD 63 undef = .slice ap D.2.1.length cp ∧ x.tmps.getD 64 undef = .int .i64 (D.2.1.length : Int) ∧ x.tmps.getD 65 undef = .int .i64 (i : Int)) ?_ _ D.2.1.length _ _ ?_ ?_
  · intro m n' x h hI' ih
    obtain ⟨i, hm, hi, hsz, hr, hold, hmp, hxs, hxd, l1, l5, l7, l9, l11, l13, l63, l64, l65⟩ := hI'
    obtain ⟨g, rfl⟩ : ∃ g : Nat → Value, x = { tmps := #[g 0, .slice a30 k30.length c30, g 2, g 3, g 4, .pointer (some ⟨b, 0, none⟩), g 6, .pointer (some ⟨k3.size, 0, none⟩), g 8, .pointer (some ⟨k5.size, 0, none⟩), g 10, .pointer (some ⟨k7.size, 0, none⟩), g 12, .map (some (k7.size + 1)), g 14, g 15, g 16, g 17, g 18, g 19, g 20, g 21, g 22, g 23, g 24, g 25, g 26, g 27, g 28, g 29, g 30, g 31, g 32, g 33, g 34, g 35, g 36, g 37, g 38, g 39, g 40, g 41, g 42, g 43, g 44, g 45, g 46, g 47, g 48, g 49, g 50, g 51, g 52, g 53, g 54, g 55, g 56, g 57, g 58, g 59, g 60, g 61, g 62, .slice ap D.2.1.length cp, .int .i64 (D.2.1.length : Int), .int .i64 (i : Int), g 66, g 67, g 68, g 69, g 70, g 71, g 72, g 73, g 74, g 75, g 76, g 77, g 78, g 79, g 80, g 81, g 82, g 83, g 84, g 85, g 86, g 87, g 88, g 89, g 90, g 91, g 92, g 93, g 94, g 95, g 96, g 97, g 98, g 99, g 100, g 101, g 102, g 103, g 104, g 105, g 106, g 107, g 108, g 109, g 110, g 111, g 112, g 113, g 114, g 115, g 116, g 117, g 118], defers := [] } := ⟨fun k => x.tmps.getD k undef, (act_eta hxs hxd).trans (by simp only [unrollL, Nat.reduceAdd, Nat.zero_add, l1, l5, l7, l9, l11, l13, l63, l64, l65])⟩; clear hxs hxd l1 l5 l7 l9 l11 l13 l63 l64 l65
    have nm := aM9.2.1
    by_cases hlt : i < D.2.1.length
    · have hlt' := lt_cast hlt
      obtain ⟨q1, q2, q3⟩ := dec_meas hlt hm
      obtain ⟨z, hz⟩ : ∃ z, D.2.1[i]? = some z := ⟨_, List.getElem?_eq_getElem hlt⟩
      obtain ⟨b2, off2, _, cells2, ow2, part2, ee, hb2, hg2, -, hp2, hle2, hex2, hc2⟩ := elem_at (s := 1) (ownFr oP (p := fun c => q = some c) (fun c hc => hc)) (show (D.2.1.map (·.1))[i]? = some z.1 by rw [List.getElem?_map, hz]; rfl) rfl (by decide)
      rw [List.length_map] at ee
      cases ee
      obtain ⟨rfl, -⟩ := Rp.int_inv hp2
      have hlt9 : b2 < k9.size := by subst hb2; exact oP.lt
      have hgb := (hold b2 hlt9 (hq b2 hb2)).trans hg2
      have hbb : b2 < h.size := by omega
      have hii : (0 ≤ (i : Int)) = True := by simp
      have w3 := i64_succ (i := i) (by omega)
      have h1 := hc2 0 (by omega)
      simp only [Nat.add_zero, Nat.mul_one, List.getElem?_cons_zero] at h1
      have hup := update_new (P := Tryd.prog) (t := 33) (kt := 3) (el := 3) (v := .int .i64 (i : Int)) (j := .i64) (by kernel_rfl) (by kernel_rfl) hmp (by omega) (rowsL_new hz wf.nod)
      rw [← rowsL_take hz] at hup
      simp (maxDischargeDepth := 16) only [z04, z08, z09, z0a, z0b, z0d, z0e, z0h, z0k, z0p, z0q, z0s, z0t, z0u, z0v, z0w, z0z, z10, z11, z13, z18, z1e, z1v, z1x, z1z, z24, z2d, z2u, z2x, z3b, z4e, z4f, z4g, z4h, z4i, z50, z51, z5a, evalC_block, Hp.cell, tElemx34, tPartx3, op_mapUpdate, hlt', hii, hgb, ne_f hbb, ne_f0 hbb, lt_t hbb, lt_t0 hbb, Int.toNat_natCast, Nat.mul_one, h1, hup, w3]
      exact ih (m - 1) _ _ q1 ⟨i + 1, q2, q3, by simp only [Hp.size_setB]; exact hsz, by simp only [Hp.ro_setB]; exact hr, fun c hc hn => by rw [get_set_ne hn]; exact hold c hc hn, get_set_self, rfl, rfl, rfl, rfl, rfl, rfl, rfl, rfl, rfl, rfl, rfl⟩
    · have hlt' := nlt_cast hlt
      obtain rfl : i = D.2.1.length := by omega
      rw [List.take_length] at hmp
      have kold : ∀ c, c < k9.size → c ≠ k7.size + 1 → h.get c = k9.get c := hold
      have Ph : Two k h b S D := ⟨P9.disk.mono (by omega) (by omega) (fun c hc => hold c (P9.disk.own c hc).2 (fun e => aM9.1 (e ▸ hc))), P9.new, ⟨by omega, fun c hc => by rw [hold c (by omega) (by omega), P9.keeps.get c hc]⟩, by have := P9.ro; omega⟩
      have m3 := aA7.2.1
      have m5 := aB7.2.1
      have n3 := aA9.2.1
      have n5 := aB9.2.1
      have n7 := aC9.2.1
      have aAh : Aside S h k3.size (shownS D al).toArray := ⟨aA9.1, by omega, (hold _ n3 (by omega)).trans aA9.2.2⟩
      have aBh : Aside S h k5.size (shownS D []).toArray := ⟨aB9.1, by omega, (hold _ n5 (by omega)).trans aB9.2.2⟩
      have aCh : Aside S h k7.size (shownS D k30).toArray := ⟨aC9.1, by omega, (hold _ n7 (by omega)).trans aC9.2.2⟩
      have aMh : AsideM S h (k7.size + 1) (rowsL D.2.1 0) := ⟨aM9.1, by omega, hmp⟩
      clear hold hmp aA9 aB9 aC9 aM9 P9 oP hq kold ih
      simp (maxDischargeDepth := 16) only [z06, z08, z09, z0a, z0c, z0d, z0e, z0g, z0j, z0m, z0p, z0q, z0s, z0t, z0v, z0w, z0z, z10, z13, z2d, z3b, z4e, z4f, z4g, z4h, z4i, z5b, evalC_block, ↓reduceIte, hlt']
      refine loop_rule (Al k _) (fun m x h => ∃ (j : Nat), m = 14 - j ∧ j ≤ 14 ∧ Two k h b S D ∧ Aside S h k3.size (shownS D al).toArray ∧ Aside S h k5.size (shownS D []).toArray ∧ Aside S h k7.size (shownS D k30).toArray ∧ AsideM S h (k7.size + 1) (rowsL D.2.1 0) ∧
        x.tmps.size = 119 ∧ x.defers = [] ∧ x.tmps.getD 1 undef = .slice a30 k30.length c30 ∧ x.tmps.getD 7 undef = .pointer (some ⟨k3.size, 0, none⟩) ∧ x.tmps.getD 9 undef = .pointer (some ⟨k5.size, 0, none⟩) ∧ x.tmps.getD 11 undef = .pointer (some ⟨k7.size, 0, none⟩) ∧ x.tmps.getD 13 undef = .map (some (k7.size + 1)) ∧ x.tmps.getD 74 undef = .int .i64 (j : Int)) ?_ _ 14 _ _ ?_ ?_
      · intro m n' x h hI' ih
        obtain ⟨j, hm, hj, P, aA, aB, aC, aM, hxs, hxd, l1, l7, l9, l11, l13, l74⟩ := hI'
        obtain ⟨g, rfl⟩ : ∃ g : Nat → Value, x = { tmps := #[g 0, .slice a30 k30.length c30, g 2, g 3, g 4, g 5, g 6, .pointer (some ⟨k3.size, 0, none⟩), g 8, .pointer (some ⟨k5.size, 0, none⟩), g 10, .pointer (some ⟨k7.size, 0, none⟩), g 12, .map (some (k7.size + 1)), g 14, g 15, g 16, g 17, g 18, g 19, g 20, g 21, g 22, g 23, g 24, g 25, g 26, g 27, g 28, g 29, g 30, g 31, g 32, g 33, g 34, g 35, g 36, g 37, g 38, g 39, g 40, g 41, g 42, g 43, g 44, g 45, g 46, g 47, g 48, g 49, g 50, g 51, g 52, g 53, g 54, g 55, g 56, g 57, g 58, g 59, g 60, g 61, g 62, g 63, g 64, g 65, g 66, g 67, g 68, g 69, g 70, g 71, g 72, g 73, .int .i64 (j : Int), g 75, g 76, g 77, g 78, g 79, g 80, g 81, g 82, g 83, g 84, g 85, g 86, g 87, g 88, g 89, g 90, g 91, g 92, g 93, g 94, g 95, g 96, g 97, g 98, g 99, g 100, g 101, g 102, g 103, g 104, g 105, g 106, g 107, g 108, g 109, g 110, g 111, g 112, g 113, g 114, g 115, g 116, g 117, g 118], defers := [] } := ⟨fun k => x.tmps.getD k undef, (act_eta hxs hxd).trans (by simp only [unrollL, Nat.reduceAdd, Nat.zero_add, l1, l7, l9, l11, l13, l74])⟩; clear hxs hxd l1 l7 l9 l11 l13 l74
        have hs := P.keeps.size
        have hpro := P.ro
        by_cases hlt : j < 14
        · have hlt' : ((j : Int) < 14) = True := by simp; omega
          have hlt2 : ((j : Int) < ((14 : Nat) : Int)) = True := by simp; omega
          have w3 := i64_succ (i := j) (by omega)
          have hjj : (0 ≤ (j : Int)) = True := by simp
          have gA := aA.2.2
          have gB := aB.2.2
          have gC := aC.2.2
          have gM := aM.2.2
          have nA := aA.2.1
          have nB := aB.2.1
          have nC := aC.2.1
          have nM := aM.2.1
          have rh : (h.ro ≤ h.size) = True := by simp; omega
          have hle : (j * 64 + 64 ≤ 896) = True := by simp; omega
          have ex : ∀ ks, ∃ y, (crashS D ks).1[j]? = some y ∧ flatOk K29 y ∧ List.take 64 (List.drop (j * 64) (shownS D ks)) = y := fun ks => by
            have hl : (crashS D ks).1.length = 14 := by simp only [crashS, downL_len]; exact h14
            obtain ⟨y, hy⟩ : ∃ y, (crashS D ks).1[j]? = some y := ⟨_, List.getElem?_eq_getElem (by omega)⟩
            exact ⟨y, hy, P.disk.crashed ks y (List.mem_of_getElem? hy), shown_block (fun y hy => (P.disk.crashed ks y hy).len) hy⟩
          obtain ⟨yA, hyA, fA, bA⟩ := ex al
          obtain ⟨yB, hyB, fB, bB⟩ := ex []
          obtain ⟨yC, hyC, fC, bC⟩ := ex k30
          have sp64 : ∀ (cs : List Value), cs.length = 64 → ∀ l : List Value, l.length = 64 → splice l.toArray 0 cs = cs.toArray := fun cs h l hl => splice_full (by simp [h, hl])
          have yBl : yB.length = 64 := fB.len
          have yBl' : 64 ≤ yB.length := by omega
          have yBt : yB.take 64 = yB := List.take_of_length_le (by omega)
          have yAl : yA.length = 64 := fA.len
          have yAl' : 64 ≤ yA.length := by omega
          have yAt : yA.take 64 = yA := List.take_of_length_le (by omega)
          have oB1 := flat_all1 fB
          have oA1 := flat_all1 fA
          have vbA := fun p => vb_flat (p := p) fA
          have vaA := fun p => all_flat (p := p) fA
          have vbB := fun p => vb_flat (p := p) fB
          have vaB := fun p => all_flat (p := p) fB
          have vbC := fun p => vb_flat (p := p) fC
          have vaC := fun p => all_flat (p := p) fC
          simp (maxDischargeDepth := 16) only [z04, z08, z09, z0a, z0b, z0d, z0e, z0p, z0q, z0s, z0t, z0u, z0v, z0w, z0z, z10, z11, z13, z18, z1e, z1f, z1g, z1v, z1w, z1x, z1z, z2d, z2o, z2v, z2x, z2y, z2z, z34, z3b, z3x, z3y, z46, z49, z4c, z4e, z4f, z4g, z4h, z4i, z4p, z4q, z4r, z4z, z50, z51, z53, z5a, z72, z73, evalC_block, Nat.reduceAdd, ↓reduceIte, Hp.row, Hp.wr, tArrx30, tPartx29, tSizex29, tZerox29, hlt', hjj, hlt2, Int.toNat_natCast, gB, ne_f nA, ne_f0 nA, lt_t nA, lt_t0 nA, ne_f nB, ne_f0 nB, lt_t nB, lt_t0 nB, ne_f nC, ne_f0 nC, lt_t nC, lt_t0 nC, rh, lB, hle, bB, yBl, oB1, sp64]
          rcases either wf h14 hlt with ⟨hno, heq⟩ | ⟨q, r, hq, hr, hyes, hnot⟩
          · have hz : pureP Tryd.prog (zeroValue 3) = some (.int .i64 0) := by kernel_rfl
            have hlk : ∀ h' : Hp, h'.get (k7.size + 1) = some (mBlk (rowsL D.2.1 0)) → aLookup Tryd.prog 33 (.map (some (k7.size + 1))) (.int .i64 (j : Int)) true h' = some (.tuple #[.int .i64 0, .bool false]) := fun h' hg' => by
              rw [lookup_none (kt := 3) (el := 3) (j := .i64) (by kernel_rfl) (by kernel_rfl) hz hg' (fun p hp => ?_)]; rfl
              obtain ⟨q, hq⟩ := List.getElem?_of_mem hp
              rw [rowsL_get, Option.map_eq_some_iff] at hq
              obtain ⟨r, hr, rfl⟩ := hq
              exact hno r (List.mem_of_getElem? hr)
            obtain rfl : yA = yB := Option.some.inj (hyA.symm.trans ((heq al []).trans hyB))
            obtain rfl : yC = yA := Option.some.inj (hyC.symm.trans ((heq k30 []).trans hyB))
            have nb := neB fB
            simp (maxDischargeDepth := 16) only [z08, z09, z0a, z0c, z0d, z0e, z0p, z0q, z0r, z0s, z0t, z0v, z0w, z0z, z10, z11, z12, z1a, z1y, z2t, z34, z35, z3b, z3l, z4e, z4f, z4g, z4h, z4i, z4m, z4n, z4o, z52, z59, z7t, ↓reduceIte, yielded, op_lookup, hlk, gM, ne_f nM, ne_f0 nM, lt_t nM, lt_t0 nM]
            rw [evalDraw_modes _ _ [(0, 0, 1), (0, 1, 3), (0, 3, 7), (0, 7, 15), (0, 15, 31), (2, 31, 63), (0, 7, 71), (0, 71, 199), (2, 199, 455), (0, 511, 1023), (0, 1023, 2047)] (by kernel_rfl)]
            simp (maxDischargeDepth := 16) only [z04, z09, z0a, z0c, z0d, z0e, z0t, z0v, z0w, z0z, z10, z12, z13, z14, z18, z1e, z1v, z1y, z1z, z2h, z2v, z2x, z34, z35, z3b, z3x, z3y, z46, z4a, z4b, z4e, z4f, z4g, z4h, z4i, z4m, z4n, z4o, z4p, z4z, z50, z51, z52, z53, z5a, z5d, z5e, z5j, z5l, z5t, z5u, z5y, z61, z62, z63, z6a, z6h, z6t, z6v, z6x, z70, z71, z73, z7t, Nat.reduceAdd, ↓reduceIte, yielded, keepR, Hp.row, tArrx30, tPartx29, hjj, hlt2, Int.toNat_natCast, gA, gB, ne_f nA, ne_f0 nA, lt_t nA, lt_t0 nA, ne_f nB, ne_f0 nB, lt_t nB, lt_t0 nB, ne_f nC, ne_f0 nC, lt_t nC, lt_t0 nC, lA, lB, hle, bA, bB, nb, vbB]
            rw [evalDraw_modes _ _ [(0, 0, 1), (0, 1, 3), (2, 3, 7), (2, 0, 8), (0, 15, 31)] (by kernel_rfl)]
            simp (maxDischargeDepth := 16) only [z04, z08, z0a, z0c, z0d, z0e, z0h, z0k, z0p, z0q, z0s, z0t, z0v, z0w, z0z, z10, z13, z18, z1e, z1v, z1z, z24, z2v, z2x, z33, z34, z35, z3b, z3x, z3y, z3z, z46, z4a, z4b, z4e, z4f, z4g, z4h, z4i, z4p, z4z, z50, z51, z53, z5a, z5j, z5l, z5t, z5u, z5x, z62, z63, z6a, z6h, z6t, z6v, z6x, z70, z71, z73, Nat.reduceAdd, Nat.reduceSub, ↓reduceIte, keepR, Hp.row, tArrx30, tPartx29, hjj, hlt2, Int.toNat_natCast, gC, ne_f nA, ne_f0 nA, lt_t nA, lt_t0 nA, ne_f nB, ne_f0 nB, lt_t nB, lt_t0 nB, ne_f nC, ne_f0 nC, lt_t nC, lt_t0 nC, lC, hle, bC, yBl, yBt, nb, vbB, w3]
            exact ih (m - 1) _ _ (by omega) ⟨j + 1, by omega, by omega, P.keep (by repeat (first | assumption | exact Keeps.refl _ | refine Keeps.push ?_ _ | refine Keeps.set ?_ (by first | omega | (simp only [Hp.size_push, Hp.size_setB]; omega)) _)) (by simp only [Hp.ro_setB, Hp.ro_push]), aA.keep (by repeat (first | assumption | exact Keeps.refl _ | refine Keeps.push ?_ _ | refine Keeps.set ?_ (by first | omega | (simp only [Hp.size_push, Hp.size_setB]; omega)) _)), aB.keep (by repeat (first | assumption | exact Keeps.refl _ | refine Keeps.push ?_ _ | refine Keeps.set ?_ (by first | omega | (simp only [Hp.size_push, Hp.size_setB]; omega)) _)), aC.keep (by repeat (first | assumption | exact Keeps.refl _ | refine Keeps.push ?_ _ | refine Keeps.set ?_ (by first | omega | (simp only [Hp.size_push, Hp.size_setB]; omega)) _)), aM.keep (by repeat (first | assumption | exact Keeps.refl _ | refine Keeps.push ?_ _ | refine Keeps.set ?_ (by first | omega | (simp only [Hp.size_push, Hp.size_setB]; omega)) _)), rfl, rfl, rfl, rfl, rfl, rfl, rfl, rfl⟩
          · have hqr := (List.getElem?_eq_some_iff.1 hq).1
            have hlk : ∀ h' : Hp, h'.get (k7.size + 1) = some (mBlk (rowsL D.2.1 0)) → aLookup Tryd.prog 33 (.map (some (k7.size + 1))) (.int .i64 (j : Int)) true h' = some (.tuple #[.int .i64 (q : Int), .bool true]) := fun h' hg' => by
              rw [lookup_some (kt := 3) (el := 3) (j := .i64) (q := q) (v := .int .i64 (q : Int)) (by kernel_rfl) (by kernel_rfl) hg' (by rw [rowsL_get, hq, Option.map_some, hr, Nat.zero_add]) (fun q' y hq' hy e => ?_)]; rfl
              rw [rowsL_get, Option.map_eq_some_iff] at hy
              obtain ⟨r', hr', rfl⟩ := hy
              have e1 : (D.2.1.map (·.1))[q']? = some (j : Int) := by rw [List.getElem?_map, hr']; simpa using e
              have e2 : (D.2.1.map (·.1))[q]? = some (j : Int) := by rw [List.getElem?_map, hq]; simpa using hr
              have h1 := (List.getElem?_eq_some_iff.1 e1).1
              have := (List.getElem?_inj h1 wf.nod).1 (e1.trans e2.symm)
              omega
            have hqq : (0 ≤ (q : Int)) = True := by simp
            by_cases hqk : q < k30.length
            · have hqk' := lt_cast hqk
              obtain ⟨kq, hkq⟩ : ∃ kq, k30[q]? = some kq := ⟨_, List.getElem?_eq_getElem hqk⟩
              obtain ⟨bb, off, _, cells, ow', part, ee, hb0, hg', -, hp', hle', hex', hcell⟩ := elem_at (s := 1) (hsl h (P.keeps.fr fun c hc => hc)).2 hkq rfl (by decide)
              cases ee
              obtain rfl := Rp.bool_inv hp'
              have hbb : bb < h.size := by omega
              have h1 := hcell 0 (by omega)
              simp only [Nat.add_zero, Nat.mul_one, List.getElem?_cons_zero] at h1
              simp (maxDischargeDepth := 16) only [z08, z09, z0a, z0d, z0e, z0p, z0q, z0r, z0s, z0t, z0v, z0w, z0z, z10, z11, z12, z13, z18, z1a, z1e, z1p, z1r, z1v, z1y, z1z, z2d, z2t, z2u, z2x, z34, z35, z3b, z4e, z4f, z4g, z4h, z4i, z4m, z4n, z4o, z50, z51, z52, z5a, z5e, ↓reduceIte, yielded, Hp.cell, tElemx23, tLenx23, tPartx4, op_lookup, hlk, gM, ne_f nM, ne_f0 nM, lt_t nM, lt_t0 nM, hqk', hqq, hg', ne_f hbb, ne_f0 hbb, lt_t hbb, lt_t0 hbb, Int.toNat_natCast, Nat.mul_one, h1]
              cases kq with
              | true =>
                obtain rfl : yC = yA := Option.some.inj (hyC.symm.trans ((hyes k30 (by rw [hkq]; rfl)).trans (by rw [hal]; exact hyA)))
                have nb := neB fC
                simp (maxDischargeDepth := 16) only [z08, z09, z0b, z0d, z0e, z0p, z0q, z0s, z0t, z0u, z0v, z0z, z10, z18, z1e, z1f, z1v, z1w, z1x, z1z, z2o, z2v, z2x, z2y, z33, z34, z35, z3b, z3x, z3y, z46, z49, z4c, z4d, z4e, z4f, z4g, z4h, z4i, z4p, z4z, z50, z51, z53, z72, z73, z7t, ↓reduceIte, Hp.row, Hp.wr, tArrx30, tPartx29, tSizex29, hjj, hlt2, Int.toNat_natCast, gA, ne_f nA, ne_f0 nA, lt_t nA, lt_t0 nA, ne_f nB, ne_f0 nB, lt_t nB, lt_t0 nB, ne_f nC, ne_f0 nC, lt_t nC, lt_t0 nC, rh, lA, hle, bA, yAl, oA1, yBl, sp64]
                rw [evalDraw_modes _ _ [(0, 0, 1), (0, 1, 3), (2, 3, 7), (2, 0, 8), (0, 15, 31)] (by kernel_rfl)]
                simp (maxDischargeDepth := 16) only [z04, z08, z0a, z0c, z0d, z0e, z0h, z0k, z0p, z0q, z0s, z0t, z0v, z0w, z0z, z10, z13, z18, z1e, z1v, z1z, z24, z2v, z2x, z33, z34, z35, z3b, z3x, z3y, z3z, z46, z4a, z4b, z4e, z4f, z4g, z4h, z4i, z4p, z4z, z50, z51, z53, z5a, z5j, z5l, z5t, z5u, z5x, z62, z63, z6a, z6h, z6t, z6v, z6x, z70, z71, z73, Nat.reduceAdd, Nat.reduceSub, ↓reduceIte, keepR, Hp.row, tArrx30, tPartx29, hjj, hlt2, Int.toNat_natCast, gC, ne_f nA, ne_f0 nA, lt_t nA, lt_t0 nA, ne_f nB, ne_f0 nB, lt_t nB, lt_t0 nB, ne_f nC, ne_f0 nC, lt_t nC, lt_t0 nC, lC, hle, bC, yAl, yAt, nb, vbA, w3]
                exact ih (m - 1) _ _ (by omega) ⟨j + 1, by omega, by omega, P.keep (by repeat (first | assumption | exact Keeps.refl _ | refine Keeps.push ?_ _ | refine Keeps.set ?_ (by first | omega | (simp only [Hp.size_push, Hp.size_setB]; omega)) _)) (by simp only [Hp.ro_setB, Hp.ro_push]), aA.keep (by repeat (first | assumption | exact Keeps.refl _ | refine Keeps.push ?_ _ | refine Keeps.set ?_ (by first | omega | (simp only [Hp.size_push, Hp.size_setB]; omega)) _)), aB.keep (by repeat (first | assumption | exact Keeps.refl _ | refine Keeps.push ?_ _ | refine Keeps.set ?_ (by first | omega | (simp only [Hp.size_push, Hp.size_setB]; omega)) _)), aC.keep (by repeat (first | assumption | exact Keeps.refl _ | refine Keeps.push ?_ _ | refine Keeps.set ?_ (by first | omega | (simp only [Hp.size_push, Hp.size_setB]; omega)) _)), aM.keep (by repeat (first | assumption | exact Keeps.refl _ | refine Keeps.push ?_ _ | refine Keeps.set ?_ (by first | omega | (simp only [Hp.size_push, Hp.size_setB]; omega)) _)), rfl, rfl, rfl, rfl, rfl, rfl, rfl, rfl⟩
              | false =>
                obtain rfl : yC = yB := Option.some.inj (hyC.symm.trans ((hnot k30 (by rw [hkq]; rfl)).trans hyB))
                have nb := neB fC
                simp (maxDischargeDepth := 16) only [z09, z0c, z7t]
                rw [evalDraw_modes _ _ [(0, 0, 1), (0, 1, 3), (0, 3, 7), (0, 7, 15), (0, 15, 31), (2, 31, 63), (0, 7, 71), (0, 71, 199), (2, 199, 455), (0, 511, 1023), (0, 1023, 2047)] (by kernel_rfl)]
                simp (maxDischargeDepth := 16) only [z04, z09, z0a, z0c, z0d, z0e, z0t, z0v, z0w, z0z, z10, z12, z14, z1y, z2h, z3b, z3l, z4a, z4b, z4e, z4f, z4g, z4h, z4i, z4m, z4n, z4o, z52, z53, z59, z5c, z5j, z5t, z5u, z5y, z61, z63, z70, z71, z7t, Nat.reduceAdd, ↓reduceIte, yielded]
                rw [evalDraw_modes _ _ [(0, 0, 1), (0, 1, 3), (2, 3, 7), (2, 0, 8), (0, 15, 31)] (by kernel_rfl)]
                simp (maxDischargeDepth := 16) only [z04, z08, z0a, z0c, z0d, z0e, z0h, z0k, z0p, z0q, z0s, z0t, z0v, z0w, z0z, z10, z13, z18, z1e, z1v, z1z, z24, z2v, z2x, z33, z34, z35, z3b, z3x, z3y, z3z, z46, z4a, z4b, z4e, z4f, z4g, z4h, z4i, z4p, z4z, z50, z51, z53, z5a, z5j, z5l, z5t, z5u, z5x, z62, z63, z6a, z6h, z6t, z6v, z6x, z70, z71, z73, Nat.reduceAdd, Nat.reduceSub, ↓reduceIte, keepR, Hp.row, tArrx30, tPartx29, hjj, hlt2, Int.toNat_natCast, gC, ne_f nA, ne_f0 nA, lt_t nA, lt_t0 nA, ne_f nB, ne_f0 nB, lt_t nB, lt_t0 nB, ne_f nC, ne_f0 nC, lt_t nC, lt_t0 nC, lC, hle, bC, yBl, yBt, nb, vbB, w3]
                exact ih (m - 1) _ _ (by omega) ⟨j + 1, by omega, by omega, P.keep (by repeat (first | assumption | exact Keeps.refl _ | refine Keeps.push ?_ _ | refine Keeps.set ?_ (by first | omega | (simp only [Hp.size_push, Hp.size_setB]; omega)) _)) (by simp only [Hp.ro_setB, Hp.ro_push]), aA.keep (by repeat (first | assumption | exact Keeps.refl _ | refine Keeps.push ?_ _ | refine Keeps.set ?_ (by first | omega | (simp only [Hp.size_push, Hp.size_setB]; omega)) _)), aB.keep (by repeat (first | assumption | exact Keeps.refl _ | refine Keeps.push ?_ _ | refine Keeps.set ?_ (by first | omega | (simp only [Hp.size_push, Hp.size_setB]; omega)) _)), aC.keep (by repeat (first | assumption | exact Keeps.refl _ | refine Keeps.push ?_ _ | refine Keeps.set ?_ (by first | omega | (simp only [Hp.size_push, Hp.size_setB]; omega)) _)), aM.keep (by repeat (first | assumption | exact Keeps.refl _ | refine Keeps.push ?_ _ | refine Keeps.set ?_ (by first | omega | (simp only [Hp.size_push, Hp.size_setB]; omega)) _)), rfl, rfl, rfl, rfl, rfl, rfl, rfl, rfl⟩
            · have hqk' := nlt_cast hqk
              obtain rfl : yC = yB := Option.some.inj (hyC.symm.trans ((hnot k30 (by rw [List.getElem?_eq_none (by omega)]; rfl)).trans hyB))
              have nb := neB fC
              simp (maxDischargeDepth := 16) only [z08, z09, z0a, z0c, z0d, z0e, z0p, z0q, z0r, z0s, z0t, z0v, z0w, z0z, z10, z11, z12, z13, z1a, z1p, z1r, z1y, z2d, z2t, z34, z35, z3b, z3l, z4e, z4f, z4g, z4h, z4i, z4m, z4n, z4o, z52, z59, z5b, z5e, z7t, ↓reduceIte, yielded, tLenx23, op_lookup, hlk, gM, ne_f nM, ne_f0 nM, lt_t nM, lt_t0 nM, hqk']
              rw [evalDraw_modes _ _ [(0, 0, 1), (0, 1, 3), (0, 3, 7), (0, 7, 15), (0, 15, 31), (2, 31, 63), (0, 7, 71), (0, 71, 199), (2, 199, 455), (0, 511, 1023), (0, 1023, 2047)] (by kernel_rfl)]
              simp (maxDischargeDepth := 16) only [z04, z09, z0a, z0c, z0d, z0e, z0t, z0v, z0w, z0z, z10, z12, z14, z1y, z2h, z3b, z3l, z4a, z4b, z4e, z4f, z4g, z4h, z4i, z4m, z4n, z4o, z52, z53, z59, z5c, z5j, z5t, z5u, z5y, z61, z63, z70, z71, z7t, Nat.reduceAdd, ↓reduceIte, yielded]
              rw [evalDraw_modes _ _ [(0, 0, 1), (0, 1, 3), (2, 3, 7), (2, 0, 8), (0, 15, 31)] (by kernel_rfl)]
              simp (maxDischargeDepth := 16) only [z04, z08, z0a, z0c, z0d, z0e, z0h, z0k, z0p, z0q, z0s, z0t, z0v, z0w, z0z, z10, z13, z18, z1e, z1v, z1z, z24, z2v, z2x, z33, z34, z35, z3b, z3x, z3y, z3z, z46, z4a, z4b, z4e, z4f, z4g, z4h, z4i, z4p, z4z, z50, z51, z53, z5a, z5j, z5l, z5t, z5u, z5x, z62, z63, z6a, z6h, z6t, z6v, z6x, z70, z71, z73, Nat.reduceAdd, Nat.reduceSub, ↓reduceIte, keepR, Hp.row, tArrx30, tPartx29, hjj, hlt2, Int.toNat_natCast, gC, ne_f nA, ne_f0 nA, lt_t nA, lt_t0 nA, ne_f nB, ne_f0 nB, lt_t nB, lt_t0 nB, ne_f nC, ne_f0 nC, lt_t nC, lt_t0 nC, lC, hle, bC, yBl, yBt, nb, vbB, w3]
              exact ih (m - 1) _ _ (by omega) ⟨j + 1, by omega, by omega, P.keep (by repeat (first | assumption | exact Keeps.refl _ | refine Keeps.push ?_ _ | refine Keeps.set ?_ (by first | omega | (simp only [Hp.size_push, Hp.size_setB]; omega)) _)) (by simp only [Hp.ro_setB, Hp.ro_push]), aA.keep (by repeat (first | assumption | exact Keeps.refl _ | refine Keeps.push ?_ _ | refine Keeps.set ?_ (by first | omega | (simp only [Hp.size_push, Hp.size_setB]; omega)) _)), aB.keep (by repeat (first | assumption | exact Keeps.refl _ | refine Keeps.push ?_ _ | refine Keeps.set ?_ (by first | omega | (simp only [Hp.size_push, Hp.size_setB]; omega)) _)), aC.keep (by repeat (first | assumption | exact Keeps.refl _ | refine Keeps.push ?_ _ | refine Keeps.set ?_ (by first | omega | (simp only [Hp.size_push, Hp.size_setB]; omega)) _)), aM.keep (by repeat (first | assumption | exact Keeps.refl _ | refine Keeps.push ?_ _ | refine Keeps.set ?_ (by first | omega | (simp only [Hp.size_push, Hp.size_setB]; omega)) _)), rfl, rfl, rfl, rfl, rfl, rfl, rfl, rfl⟩
        · obtain rfl : j = 14 := by omega
          have hlt' : (((14 : Nat) : Int) < 14) = False := by simp
          simp (maxDischargeDepth := 16) only [z05, z06, z08, z09, z0a, z0c, z0d, z0e, z0g, z0j, z0m, z0o, z0p, z0q, z0s, z0t, z0v, z0w, z0z, z11, z13, z2d, z3b, z3c, z3f, z4e, z4f, z4g, z4h, z4i, z4z, z5b, ↓reduceIte, hlt']
          exact Al.done P.keeps P.ro rfl
      · omega
      · exact ⟨0, by omega, by omega, Ph, aAh, aBh, aCh, aMh, rfl, rfl, rfl, rfl, rfl, rfl, rfl, rfl⟩
  · omega
  · exact ⟨0, by omega, by omega, rfl, rfl, fun c _ _ => rfl, aM9.2.2, rfl, rfl, rfl, rfl, rfl, rfl, rfl, rfl, rfl, rfl, rfl⟩
end
end Go.Abs.B1d
