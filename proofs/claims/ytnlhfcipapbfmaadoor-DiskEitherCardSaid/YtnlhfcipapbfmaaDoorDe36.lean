/- What all sectors of a disk show, behind a crash of a copy. -/
import Derived.Test.YtnlhfcipapbfmaaDoorDe35
namespace Go.Abs.B1d
open Go.Proofs
set_option maxRecDepth 10000
set_option maxHeartbeats 4000000
set_option linter.all false
def zc (n : Nat) : List Value := List.replicate n (Value.int .u8 0)
/-- What is shown: block by block. -/
def shownS (D : DV) (ks : List Bool) : List Value := (crashS D ks).1.flatten
theorem zero30_eq : zero30 = (([] : List (List Value)).flatten ++ zc (14 * 64)).toArray := by kernel_rfl
theorem zero30_size : zero30.size = 896 := by kernel_rfl
abbrev KB (n : Nat) : List Sc := List.replicate n (.int .u8)
theorem flatOk_append : ∀ {K L : List Sc} {a b : List Value}, flatOk K a → flatOk L b → flatOk (K ++ L) (a ++ b)
  | [], _, [], _, _, h => h
  | [], _, _ :: _, _, h, _ => h.elim
  | _ :: _, _, [], _, h, _ => h.elim
  | _ :: _, _, _ :: _, _, h, g => ⟨h.1, flatOk_append h.2 g⟩
theorem zc_one (n : Nat) : (zc n).all oneC = true := by
  rw [List.all_eq_true]; intro c hc
  have := List.eq_of_mem_replicate hc
  subst this; rfl
/-- A block is laid in. -/
theorem lay_block {a d : List Value} {n : Nat} (hd : d.length = 64) : splice (a ++ zc ((n + 1) * 64)).toArray a.length d = (a ++ d ++ zc (n * 64)).toArray := by
  apply Array.ext'
  rw [splice_list (by simp [zc, hd]; omega)]
  simp only [List.append_assoc]
  have h1 : (a ++ zc ((n + 1) * 64)).take a.length = a := by simp
  have h2 : (a ++ zc ((n + 1) * 64)).drop (a.length + d.length) = zc (n * 64) := by
    rw [List.drop_append, List.drop_eq_nil_of_le (by omega), List.nil_append, zc, List.drop_replicate, zc]
    congr 1; omega
  rw [h1, h2]
section
variable {N : Nat} {k h : Hp} {S p : Nat → Prop} {b : Nat} {D : DV}
theorem run_shown (d : DiskAt S k b D) (h14 : D.1.length = 14) {v : Value} {ks : List Bool} (rk : (Rp.slice Rp.bool).r false p k [v] ks) (hp : ∀ c, p c → c < k.size) (hN : 200 < N) :
    Al k (fun _ u => u = .tuple #[.agg (shownS D ks).toArray, .bool true] ∧ (shownS D ks).length = 896 ∧ (shownS D ks).all oneC = true ∧ flatOk (KB 896) (shownS D ks)) (evalV Tryd.prog I0 N (.fn 8) #[.pointer (some ⟨b, 0, none⟩), v] k) := by
  obtain ⟨N, rfl⟩ : ∃ n, N = n + 1 := ⟨N - 1, by omega⟩
  have hro := d.ro
  have h0 : I0 8 = none := rfl
  have ov := (Rp.slice Rp.bool).rone rk v (List.mem_singleton.2 rfl)
  have hC : (crashS D ks).1.length = 14 := by simp only [crashS, downL_len]; exact h14
  rw [evalV_call (P := Tryd.prog) (intr := I0) (f := 8) (m := 39) (rs := #[.cell 4 30, .tmp 5]) h0 Tryd.func8 rfl rfl rfl]
  simp (maxDischargeDepth := 16) only [z08, z09, z0d, z0e, z0p, z0q, z0s, z0t, z0v, z0w, z0x, z10, z11, z1g, z1l, z2z, z3b, z3h, z4a, z4e, z4f, z4g, z4h, z4i, z4j, z4k, z4l, z4p, z4q, z4r, z4s, z4t, z4u, z4v, z4w, z4x, z4y, z4z, z53, Nat.reduceAdd, Nat.reduceSub, ↓reduceIte, hasBx22, tZerox30]
  refine ex_ev (S := fun v h => ∃ bc, v = .pointer (some ⟨bc, 0, none⟩) ∧ Keeps k h ∧ h.ro = k.ro ∧ k.size + 2 ≤ h.size ∧ h.get k.size = some (.cells zero30 true) ∧ h.get (k.size + 1) = some (.cells zero30 true) ∧ DiskAt (fun c => k.size + 2 ≤ c ∧ c < h.size) h bc D) (Al k _) (fun h1 hh1 => ?_) ?_
  · have s1 : h1.size = k.size + 2 := by rw [hh1]; simp only [Hp.size_push]
    have r1 : h1.ro = k.ro := by rw [hh1]; simp only [Hp.ro_push]
    have k1 : Keeps k h1 := by rw [hh1]; exact (by repeat (first | assumption | exact Keeps.refl _ | refine Keeps.push ?_ _ | refine Keeps.set ?_ (by first | omega | (simp only [Hp.size_push, Hp.size_setB]; omega)) _))
    have g0 : h1.get k.size = some (.cells zero30 true) := by rw [hh1]; simp (maxDischargeDepth := 16) only [z34, z38, z39, z4a, ↓reduceIte]
    have g1 : h1.get (k.size + 1) = some (.cells zero30 true) := by rw [hh1]; simp (maxDischargeDepth := 16) only [z34, z4a, ↓reduceIte]
    refine (run_Copy (N := N) jDk (by omega) (d.keep k1 r1) (by omega)).mono ?_
    rintro v h2 ⟨bc, rfl, hk2, hr2, dc⟩
    have := hk2.size
    exact ⟨bc, rfl, k1.trans hk2, by omega, by omega, (hk2.get _ (by omega)).trans g0, (hk2.get _ (by omega)).trans g1, dc.wide (fun c hc => ⟨by omega, hc.2⟩) (fun c hc => ⟨by omega, hc.2⟩)⟩
  rintro _ h2 ⟨bc, rfl, k2, r2, s2, g0, g1, dc⟩
  simp (maxDischargeDepth := 16) only [z08, z09, z0d, z0e, z0p, z0q, z0r, z0s, z0t, z0v, z0w, z0x, z0z, z10, z11, z13, z1l, z3b, z3h, z4e, z4f, z4g, z4h, z4i, z4j, z4k, z4l, z4m, z4n, z4o, z4s, z4u, z4v, z52, z5e, z7i, z7m, ↓reduceIte, yielded, hasBx10, tPtrx25]
  refine ex_any (Al k _) (run_Crash (N := N) (p := p) jDk (by omega) dc ((Rp.slice Rp.bool).mono rk (fun _ h => h) id (k2.fr hp)) (fun c hc => ⟨by have := hp c hc; omega, fun hn => by have := hp c hc; omega⟩)) ?_
  rintro _ h3 ⟨rfl, st⟩
  have c3 := st.2
  have s3 := c3.1
  have ecr : ∃ o, crashS D ks = ((crashS D ks).1, [], -1, -1, false, o) := ⟨_, rfl⟩
  obtain ⟨o0, ecr⟩ := ecr
  generalize hCC : (crashS D ks).1 = C at *
  have d3 := st.1
  rw [ecr] at d3
  have hsh : shownS D ks = C.flatten := by unfold shownS; rw [hCC]
  simp (maxDischargeDepth := 16) only [z04, z08, z09, z0a, z0c, z0d, z0e, z0p, z0q, z0r, z0s, z0t, z0v, z0w, z0z, z10, z12, z13, z1y, z2c, z3b, z4e, z4f, z4g, z4h, z4i, z4m, z4n, z4o, z52, z59, z5a, z5c, z5e, evalC_block, ↓reduceIte, yielded]
  refine loop_rule (Al k _) (fun m x h => ∃ (i : Nat) (o : Int) (S : Nat → Prop), m = 14 - i ∧ i ≤ 14 ∧ DiskAt S h bc (C, [], -1, -1, false, o) ∧ (∀ c, S c → k.size + 2 ≤ c) ∧ Keeps k h ∧ h.ro = k.ro ∧ k.size + 2 ≤ h.size ∧ h.get k.size = some (.cells zero30 true) ∧ h.get (k.size + 1) = some (.cells ((C.take i).flatten ++ zc ((14 - i) * 64)).toArray true) ∧ (C.take i).flatten.length = i * 64 ∧ (C.take i).flatten.all oneC = true ∧ flatOk (KB (i * 64)) (C.take i).flatten ∧
    x.tmps.size = 39 ∧ x.defers = [] ∧ x.tmps.getD 4 undef = .pointer (some ⟨k.size, 0, none⟩) ∧ x.tmps.getD 6 undef = .pointer (some ⟨k.size + 1, 0, none⟩) ∧ x.tmps.getD 7 undef = .pointer (some ⟨bc, 0, none⟩) ∧ x.tmps.getD 22 undef = .int .i64 (i : Int)) ?_ _ 14 _ _ ?_ ?_
  · intro m n' x h hI' ih
    obtain ⟨i, o, S, hm, hi, d, hS, hk, hr, hs, g0, g1, hfl, hon, hfk, hxs, hxd, l4, l6, l7, l22⟩ := hI'
    obtain ⟨g, rfl⟩ : ∃ g : Nat → Value, x = { tmps := #[g 0, g 1, g 2, g 3, .pointer (some ⟨k.size, 0, none⟩), g 5, .pointer (some ⟨k.size + 1, 0, none⟩), .pointer (some ⟨bc, 0, none⟩), g 8, g 9, g 10, g 11, g 12, g 13, g 14, g 15, g 16, g 17, g 18, g 19, g 20, g 21, .int .i64 (i : Int), g 23, g 24, g 25, g 26, g 27, g 28, g 29, g 30, g 31, g 32, g 33, g 34, g 35, g 36, g 37, g 38], defers := [] } := ⟨fun k => x.tmps.getD k undef, (act_eta hxs hxd).trans (by simp only [unrollL, Nat.reduceAdd, Nat.zero_add, l4, l6, l7, l22])⟩; clear hxs hxd l4 l6 l7 l22
    by_cases hlt : i < 14
    · have hlt' : ((i : Int) < 14) = True := by simp; omega
      have w3 := i64_succ (i := i) (by omega)
      obtain ⟨o', er⟩ := read_plain (P := C) (a := -1) (o := o) (i := i) (by omega)
      obtain ⟨y, hy⟩ : ∃ y, C[i]? = some y := ⟨_, List.getElem?_eq_getElem (by omega)⟩
      rw [hy, Option.getD_some] at er
      simp (maxDischargeDepth := 16) only [z04, z08, z09, z0a, z0b, z0d, z0e, z0p, z0q, z0s, z0t, z0v, z0w, z0x, z0z, z10, z11, z13, z1l, z2d, z3b, z3h, z4e, z4f, z4g, z4h, z4i, z4j, z4k, z4l, z4s, z4u, z4v, z5a, evalC_block, ↓reduceIte, hasBx20, hlt']
      refine ex_any (Al k _) (run_Read (N := N) (i := (i : Int)) jDk.Read jDk.act jDk.power jDk.burns jDk.Read1 jDk.held jDk.IndexFunc jDk.held1 (by omega) d) ?_
      rw [er]
      rintro _ h4 ⟨rfl, d4, c4, hf4⟩
      have st4 := Step.of d4 c4 (by omega)
      have s4 := c4.1
      have r4 := c4.2.1
      have rh4 : (h4.ro ≤ h4.size) = True := by simp; omega
      have rh5 : (h4.ro ≤ k.size + 1) = True := by simp; omega
      have l4 : y.length = 64 := hf4.len
      have l4' : 64 ≤ y.length := by omega
      have t4 : y.take 64 = y := List.take_of_length_le (by omega)
      have sp64 : ∀ (cs : List Value), cs.length = 64 → ∀ l : List Value, l.length = 64 → splice l.toArray 0 cs = cs.toArray := fun cs h l hl => splice_full (by simp [h, hl])
      have y1 := (c4.2.2 (k.size + 1) (by omega) (fun hn => by have := hS _ hn; omega)).trans g1
      have y0 := (c4.2.2 k.size (by omega) (fun hn => by have := hS _ hn; omega)).trans g0
      have n1 : k.size + 1 < h4.size := by omega
      have n4 : h4.size < h4.size + 1 := by omega
      have hii : (0 ≤ (i : Int)) = True := by simp
      have hi14 : ((i : Int) < ((14 : Nat) : Int)) = True := by simp; omega
      have hlen : ((C.take i).flatten ++ zc ((14 - i) * 64)).length = 896 := by rw [List.length_append, hfl, zc, List.length_replicate]; omega
      have hle : i * 64 + 64 ≤ 896 := by omega
      have tk1 : C.take (i + 1) = C.take i ++ [y] := by rw [List.take_succ, hy]; rfl
      have hlay : splice ((C.take i).flatten ++ zc ((14 - i) * 64)).toArray (i * 64) y = ((C.take (i + 1)).flatten ++ zc ((14 - (i + 1)) * 64)).toArray := by
        rw [show 14 - i = (14 - (i + 1)) + 1 by omega, ← hfl, lay_block l4, tk1, List.flatten_append]; simp
      simp (maxDischargeDepth := 16) only [z04, z08, z09, z0a, z0c, z0d, z0e, z0h, z0k, z0p, z0q, z0s, z0t, z0u, z0v, z0w, z0z, z10, z11, z13, z18, z1a, z1e, z1f, z1g, z1v, z1w, z1x, z1z, z24, z2c, z2o, z2t, z2v, z2x, z2y, z2z, z33, z34, z35, z3b, z3x, z3y, z3z, z46, z49, z4c, z4d, z4e, z4f, z4g, z4h, z4i, z4m, z4n, z4o, z4p, z4q, z4r, z4z, z50, z51, z53, z5a, z5c, z72, Nat.reduceAdd, Nat.reduceSub, ↓reduceIte, Hp.row, Hp.wr, tArrx30, tPartx29, tSizex29, tZerox29, rh4, l4, t4, flat_all1 hf4, sp64, hii, hi14, Int.toNat_natCast, y1, ne_f n1, ne_f0 n1, lt_t n1, lt_t0 n1, rh5, w3, hlen, hle, hlay]
      refine ih (m - 1) _ _ (by omega) ⟨i + 1, o', S, by omega, by omega, ?_, hS, ?_, by simp only [Hp.ro_setB, Hp.ro_push]; omega, by simp only [Hp.size_setB, Hp.size_push]; omega, ?_, get_set_self, ?_, ?_, ?_, rfl, rfl, rfl, rfl, rfl, rfl⟩
      · exact d4.mono (by simp only [Hp.size_setB, Hp.size_push]; omega) (by simp only [Hp.ro_setB, Hp.ro_push]) (fun c hc => by
          have h1 := hS c hc
          have h2 := (d4.own c hc).2
          rw [get_set_ne (by omega), get_set_ne (by omega), get_push_ne (by omega)])
      · exact ⟨by simp only [Hp.size_setB, Hp.size_push]; have := hk.size; omega, fun c hc => by rw [get_set_ne (by omega), get_set_ne (by omega), get_push_ne (by omega), c4.2.2 c (by omega) (fun hn => by have := hS c hn; omega), hk.get c hc]⟩
      · rw [get_set_ne (by omega), get_set_ne (by omega), get_push_ne (by omega)]; exact y0
      · rw [tk1, List.flatten_append, List.length_append, hfl]; simp; omega
      · rw [tk1, List.flatten_append, List.all_append, hon]; simpa using flat_all1 hf4
      · rw [tk1, List.flatten_append, show (i + 1) * 64 = i * 64 + 64 by omega, KB, ← List.replicate_append_replicate]
        exact flatOk_append hfk (by simpa using hf4)
    · obtain rfl : i = 14 := by omega
      have hlt' : (((14 : Nat) : Int) < 14) = False := by simp
      have tk : C.take 14 = C := List.take_of_length_le (by omega)
      rw [tk] at hfl hon hfk g1
      have g1 : h.get (k.size + 1) = some (.cells C.flatten.toArray true) := by rw [g1]; simp [zc]
      have n0 : k.size < h.size := by omega
      have n1 : k.size + 1 < h.size := by omega
      have r0 : (h.ro ≤ k.size) = True := by simp; omega
      have hl : C.flatten.length = 896 := by omega
      have hle : 896 ≤ C.flatten.length := by omega
      have ht : C.flatten.take 896 = C.flatten := List.take_of_length_le (by omega)
      have hsz := zero30_size
      have spz : splice zero30 0 C.flatten = C.flatten.toArray := splice_full (by rw [hsz, hl])
      rw [hsh]
      simp (maxDischargeDepth := 16) only [z05, z06, z08, z09, z0a, z0c, z0d, z0e, z0g, z0j, z0m, z0o, z0p, z0q, z0s, z0t, z0u, z0v, z0w, z0z, z11, z13, z1e, z1f, z1v, z1w, z1x, z2d, z2o, z2x, z2y, z33, z3b, z3d, z3f, z3g, z3x, z3y, z3z, z46, z47, z49, z4e, z4f, z4g, z4h, z4i, z4p, z4z, z52, z53, z5b, z72, Nat.reduceSub, ↓reduceIte, Hp.row, Hp.wr, tPartx30, tSizex30, hlt', g0, g1, ne_f n0, ne_f0 n0, lt_t n0, lt_t0 n0, ne_f n1, ne_f0 n1, lt_t n1, lt_t0 n1, r0, hl, ht, hsz, spz, hon]
      exact Al.done ⟨by simp only [Hp.size_setB]; exact hk.size, fun c hc => by rw [get_set_ne (by omega)]; exact hk.get c hc⟩ (by simp only [Hp.ro_setB]; exact hr) (by first | rfl | exact ⟨rfl, hfk⟩)
  · omega
  · exact ⟨0, o0, _, by omega, by omega, d3, fun c hc => by rcases hc with hc | hc <;> omega, (st.fresh (k := k) (fun c hc => by have := hc.1; omega) k2).2, by have := c3.2.1; omega, by omega, (c3.2.2 _ (by omega) (fun hn => by have := hn.1; omega)).trans g0, ((c3.2.2 _ (by omega) (fun hn => by have := hn.1; omega)).trans g1).trans (by rw [zero30_eq]; rfl), rfl, rfl, trivial, rfl, rfl, rfl, rfl, rfl, rfl⟩
end
end Go.Abs.B1d
