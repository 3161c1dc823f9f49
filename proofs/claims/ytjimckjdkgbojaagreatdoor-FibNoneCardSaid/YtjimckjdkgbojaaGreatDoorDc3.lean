/- The block at a place of an arena: find. -/
import Derived.Test.YtjimckjdkgbojaaGreatDoorDc2
namespace Go.Abs.D1
open Go.Proofs
set_option maxRecDepth 10000
set_option maxHeartbeats 4000000
set_option linter.all false
theorem guU : yielded.match_1 (fun _ => Option Bool) (some undef) (fun b => some b) (fun _ => none) = none := rfl
theorem hide {r : Option (Value × Hp)} {S : Bool → Hp → Prop} (H : ∀ S', S' = S → ∃ b h', r = some (.bool b, h') ∧ S' b h') : ∃ b h', r = some (.bool b, h') ∧ S b h' := H S rfl
theorem run178 {I : Intr} (i0 : I 178 = none) (i1 : I 149 = none) (h1 : I 205 = none) (h2 : I 206 = none) (h3 : I 119 = none) {N : Nat} {k : Hp} {ab wb n cap e : Nat} {ws : Array Value} {o1 o2 : Bool} (hA : k.get ab = some (.cells #[.slice (some ⟨wb, 0, none⟩) n cap] o1)) (hW : k.get wb = some (.cells ws o2))
    (nA : ab < k.size) (nW : wb < k.size) (he : wd ws 15 = some e) (hen : e ≤ n) (hn : 15 < n) (hnn : n < 4611686018427387904) (hro : k.ro ≤ k.size) (hN : e + 40 < N)
    (place : Int) {res : Nat × Nat × Bool} (hres : walkF ws e place (N - 11) 16 = some res) :
    Al k (fun _ v => v = .tuple #[.agg #[.int .i64 (res.1 : Int), .int .i64 (res.2.1 : Int)], .bool res.2.2]) (evalV Tryz.prog I (N + 1) (.fn 178) #[.pointer (some ⟨ab, 0, none⟩), .int .i64 place] k) := by
  obtain ⟨M, rfl⟩ : ∃ M, N = M + 1 := ⟨N - 1, by omega⟩
  rw [show M + 1 - 11 = M - 10 by omega] at hres
  have c149 := fun k' => run149 (I := I) i1 (N := M) (h := k') (ab := ab)
  rw [evalV_call (P := Tryz.prog) (intr := I) (f := 178) (m := 21) (rs := #[.cell 4 152, .cell 5 4]) i0 Tryz.func178 rfl rfl rfl]
  simp (maxDischargeDepth := 16) only [z08, z09, z0d, z0e, z0p, z0q, z0s, z0t, z0v, z0x, z10, z1g, z1h, z1l, z2m, z2z, z3a, z3b, z3h, z4a, z4e, z4f, z4g, z4h, z4i, z4j, z4k, z4l, z4p, z4q, z4r, z4s, z4t, z4u, z4v, z4w, z4x, z4y, z4z, z53, z7n, evalC_block, Nat.reduceAdd, Nat.reduceSub, ↓reduceIte, hasBx149, tZerox4, tZerox152, c149]
  refine range_rule3 (Al k _) fun asg' body' tm hb ea eb htm hhb => ?_
  have hs : hb.size = k.size + 4 := by rw [hhb]; simp only [Hp.size_push, Hp.size_setB]
  have hkb : Keeps k hb := by rw [hhb]; exact (by repeat (first | assumption | exact Keeps.refl _ | refine Keeps.push ?_ _ | refine Keeps.set ?_ (by first | omega | (simp only [Hp.size_push, Hp.size_setB]; omega)) _))
  have hrb : hb.ro = k.ro := by rw [hhb]; simp only [Hp.ro_push, Hp.ro_setB]
  have e0 : hb.get k.size = some (.cells #[.int .i64 place] true) := by rw [hhb]; simp (maxDischargeDepth := 16) only [z34, z38, z39, z3a, z4a, Nat.reduceEqDiff, Nat.reduceAdd, ↓reduceIte]
  have e1 : hb.get (k.size + 1) = some (.cells #[.int .i64 0, .int .i64 0] true) := by rw [hhb]; simp (maxDischargeDepth := 16) only [z34, z36, z3a, z4a, Nat.reduceEqDiff, Nat.reduceAdd, ↓reduceIte]
  have e2 : hb.get (k.size + 2) = some (.cells #[.bool false] true) := by rw [hhb]; simp (maxDischargeDepth := 16) only [z34, z36, z3a, z4a, Nat.reduceEqDiff, Nat.reduceAdd, ↓reduceIte]
  have e3 : hb.get (k.size + 3) = some (.cells #[.pointer (some ⟨ab, 0, none⟩)] true) := by rw [hhb]; simp (maxDischargeDepth := 16) only [z34, z3a, z4a, Nat.reduceAdd, ↓reduceIte]
  clear hhb
  obtain ⟨k0, hk0⟩ : ∃ k0, k0 = enterH hb tm #[10, 11] asg' body' := ⟨_, rfl⟩
  have k0s : k0.size = k.size + 6 := by rw [hk0]; simp only [enterH, Hp.size_push]; omega
  have k0r : k0.ro = k.ro := by rw [hk0]; simp only [enterH, Hp.ro_push]; exact hrb
  have k0g : ∀ c, c < k.size + 4 → k0.get c = hb.get c := fun c hc => by rw [hk0]; unfold enterH; rw [get_push_ne (by simp only [Hp.size_push]; omega), get_push_ne (by omega)]
  have k0d : k0.get (k.size + 4) = some (.defd false) := by rw [hk0]; unfold enterH; rw [get_push_ne (by simp only [Hp.size_push]; omega), ← hs, get_push_self]
  have k0l : k0.get (k.size + 5) = some (.loop .ready none tm #[10, 11] asg' body' (k.size + 4)) := by rw [hk0]; unfold enterH; rw [Hp.get_push, if_pos (by simp only [Hp.size_push]; omega), hs]
  have k0k : Keeps k k0 := ⟨by omega, fun c hc => by rw [k0g c (by omega), hkb.get c hc]⟩
  rw [← hk0]
  have r := run205 (I := I) (N := M) (k := k0) (ab := ab) (wb := wb) (n := n) (cap := cap) (e := e) (B := k.size + 3) (l := k.size + 5) (ws := ws) h1 h2 h3 ((k0k.get ab nA).trans hA) ((k0k.get wb nW).trans hW) ((k0g _ (by omega)).trans e3) (by omega) (by omega) (by omega) he hen hn hnn (by omega) (by omega) place (res := res)
    (fun h => Keeps k0 h ∧ h.ro = k0.ro)
    (fun h' => ∃ (st : LoopState) (pd : Option Code), Keeps k h' ∧ h'.ro = k.ro ∧ k.size + 6 ≤ h'.size ∧ h'.get (k.size + 4) = some (.defd false) ∧ h'.get (k.size + 5) = some (.loop st pd tm #[10, 11] asg' body' (k.size + 4)) ∧ st ≠ .busy ∧
      ((pd = none ∧ res = (0, 0, false)) ∨ (pd = some .ret ∧ res.2.2 = true ∧ h'.get (k.size + 1) = some (.cells #[.int .i64 (res.1 : Int), .int .i64 (res.2.1 : Int)] true) ∧ h'.get (k.size + 2) = some (.cells #[.bool true] true))) ∧
      ∃ x y, h'.get (k.size + 1) = some (.cells #[x, y] true) ∧ ∃ z, h'.get (k.size + 2) = some (.cells #[z] true))
    (fun h hi => hi)
    (fun h h' hi hk hr => ⟨hi.1.trans hk, by rw [hr]; exact hi.2⟩)
    (by
      rintro h hd at' ⟨i1', i2⟩ g1 g2 hlt
      have i5 : h.get (k.size + 5) = some (.loop .ready none tm #[10, 11] asg' body' (k.size + 4)) := (i1'.get _ (by omega)).trans k0l
      have hsz := i1'.size
      have j0 := ((i1'.get k.size (by omega)).trans (k0g _ (by omega))).trans e0
      have j1 := ((i1'.get (k.size + 1) (by omega)).trans (k0g _ (by omega))).trans e1
      have j2 := ((i1'.get (k.size + 2) (by omega)).trans (k0g _ (by omega))).trans e2
      have j4 := (i1'.get (k.size + 4) (by omega)).trans k0d
      have rh0 : (h.ro ≤ h.size) = True := by simp; omega
      have rh : ∀ j, (h.ro ≤ h.size + j) = True := fun j => by simp; omega
      have rk : ∀ j, (h.ro ≤ k.size + j) = True := fun j => by simp; omega
      obtain ⟨M, rfl⟩ : ∃ m, M = m + 1 := ⟨M - 1, by omega⟩
      refine hide fun S hS => ?_
      rw [evalV_yield i5 rfl ea eb, zip_pair, htm]
      simp (maxDischargeDepth := 16) only [z08, z09, z0d, z0e, z0p, z0q, z0s, z0t, z0u, z0v, z11, z1f, z1g, z1w, z1x, z2o, z2y, z2z, z34, z3b, z3p, z3v, z3w, z44, z45, z46, z49, z4c, z4e, z4f, z4g, z4h, z4i, z4p, z4q, z4r, z4z, z53, z5f, z72, z7m, Nat.reduceAdd, ↓reduceIte, Hp.wr, tSizex152, tZerox152, rh0]
      refine Kasg_heap (fun r => ∃ b h', r = some (Value.bool b, h') ∧ S b h') fun h1 hh1 => ?_
      have gl : h1.get (k.size + 5) = some (.loop .ready none tm #[10, 11] asg' body' (k.size + 4)) := by rw [hh1, get_set_ne (by omega), get_push_ne (by omega)]; exact i5
      have gr : h1.get h.size = some (.cells #[.int .i64 ((at' + 1 : Nat) : Int), .int .i64 (((hd - 16) / 2 : Nat) : Int)] true) := by rw [hh1, get_set_self]
      have kh1 : Keeps h h1 := by rw [hh1]; exact (by repeat (first | assumption | exact Keeps.refl _ | refine Keeps.push ?_ _ | refine Keeps.set ?_ (by first | omega | (simp only [Hp.size_push, Hp.size_setB]; omega)) _))
      have sh1 : h1.size = h.size + 1 := by rw [hh1]; simp only [Hp.size_setB, Hp.size_push]
      have rh1 : h1.ro = h.ro := by rw [hh1]; simp only [Hp.ro_setB, Hp.ro_push]
      clear hh1
      rw [Kasg_normal gl (by omega)]
      obtain ⟨hz, hhz⟩ : ∃ hz, hz = h1.setB (k.size + 5) (some (.loop .busy none tm #[10, 11] asg' body' (k.size + 4))) := ⟨_, rfl⟩
      rw [← hhz]
      have zz : hz.size = h.size + 1 := by rw [hhz]; simpa using sh1
      have zr : hz.ro = h.ro := by rw [hhz]; exact rh1
      have zg : ∀ c, c < h.size → c ≠ k.size + 5 → hz.get c = h.get c := fun c hc hne => by rw [hhz, get_set_ne (by omega), kh1.get c hc]
      have z0 := (zg k.size (by omega) (by omega)).trans j0
      have z1 := (zg (k.size + 1) (by omega) (by omega)).trans j1
      have z2 := (zg (k.size + 2) (by omega) (by omega)).trans j2
      have zp : hz.get h.size = some (.cells #[.int .i64 ((at' + 1 : Nat) : Int), .int .i64 (((hd - 16) / 2 : Nat) : Int)] true) := by rw [hhz, get_set_ne (by omega)]; exact gr
      have zl : hz.get (k.size + 5) = some (.loop .busy none tm #[10, 11] asg' body' (k.size + 4)) := by rw [hhz, get_set_self]
      have m0 : k.size < hz.size := by omega
      have m1 : k.size + 1 < hz.size := by omega
      have m2 : k.size + 2 < hz.size := by omega
      have mp : h.size < hz.size := by omega
      have zk : ∀ j, (hz.ro ≤ k.size + j) = True := fun j => by simp; omega
      have zk0 : (hz.ro ≤ k.size) = True := by simp; omega
      have skip : ∃ b h', some (Value.bool true, hz.setB (k.size + 5) (some (.loop .ready none tm #[10, 11] asg' body' (k.size + 4)))) = some (Value.bool b, h') ∧ b = true ∧ Keeps k0 h' ∧ h'.ro = k0.ro := by
        refine ⟨true, _, rfl, rfl, ⟨by simp only [Hp.size_setB]; omega, fun c hc => ?_⟩, by simp only [Hp.ro_setB]; omega⟩
        by_cases hc5 : c = k.size + 5
        · subst hc5; rw [get_set_self, k0l]
        · rw [get_set_ne (by omega), zg c (by omega) hc5, i1'.get c hc]
      cases ht : Nat.beq (hd % 2) 1 with
      | false =>
        simp (maxDischargeDepth := 16) only [z04, z08, z09, z0a, z0c, z0d, z0e, z0h, z0p, z0q, z0r, z0s, z0t, z0v, z0w, z0z, z10, z12, z1y, z3b, z3l, z4e, z4f, z4g, z4h, z4i, z4m, z4n, z4o, z52, z59, z7m, evalC_block, ↓reduceIte, yielded]
        rw [Kbody_normal zl (by omega)]
        rw [hS, ht]
        simp only [Bool.false_and, Bool.false_eq_true, if_false]
        exact skip
      | true =>
        by_cases hp : ((at' + 1 : Nat) : Int) = place
        case neg =>
          have hp' : (((at' + 1 : Nat) : Int) = place) = False := eq_false hp
          simp (maxDischargeDepth := 16) only [z04, z08, z09, z0a, z0c, z0d, z0e, z0h, z0p, z0q, z0r, z0s, z0t, z0v, z0w, z0z, z10, z12, z13, z16, z1e, z1v, z1y, z2b, z2w, z2x, z3b, z4e, z4f, z4g, z4h, z4i, z4m, z4n, z4o, z50, z51, z52, z54, z5b, z5e, z7m, evalC_block, ↓reduceIte, yielded, Hp.cell, tFieldAx152x0, tPartx3, z0, zp, ne_f m0, ne_f0 m0, lt_t m0, lt_t0 m0, ne_f mp, ne_f0 mp, lt_t mp, lt_t0 mp, hp']
          rw [Kbody_normal zl (by omega)]
          rw [hS, ht, decide_eq_false hp]
          simp only [Bool.and_false, Bool.false_eq_true, if_false]
          exact skip
        case pos =>
          have hp' : (((at' + 1 : Nat) : Int) = place) = True := eq_true hp
          simp (maxDischargeDepth := 16) only [z05, z08, z09, z0a, z0b, z0d, z0e, z0i, z0p, z0q, z0r, z0s, z0t, z0u, z0v, z0w, z0z, z10, z12, z13, z16, z1e, z1f, z1v, z1w, z1x, z1y, z2b, z2n, z2o, z2w, z2x, z2y, z35, z36, z3b, z3p, z3q, z3v, z3w, z3x, z3y, z3z, z41, z43, z44, z45, z46, z49, z4d, z4e, z4f, z4g, z4h, z4i, z4m, z4n, z4o, z4p, z4q, z4r, z4z, z50, z51, z52, z53, z54, z5a, z5e, z5f, z72, z7m, evalC_block, Nat.reduceEqDiff, Nat.reduceAdd, Nat.reduceSub, ↓reduceIte, yielded, Hp.cell, Hp.row, Hp.wr, tFieldAx152x0, tPartx3, tPartx152, tSizex4, tSizex152, z0, z1, z2, zp, ne_f m0, ne_f0 m0, lt_t m0, lt_t0 m0, ne_f m1, ne_f0 m1, lt_t m1, lt_t0 m1, ne_f m2, ne_f0 m2, lt_t m2, lt_t0 m2, ne_f mp, ne_f0 mp, lt_t mp, lt_t0 mp, hp', zk]
          rw [Kbody_ret (by rw [get_set_ne (by omega), get_set_ne (by omega)]; exact zl) (by simp only [Hp.ro_setB]; omega)]
          rw [hS, ht, decide_eq_true hp]
          simp only [Bool.and_true, if_true]
          refine ⟨false, _, rfl, rfl, fun hz' => ⟨.done, some .ret, ⟨by simp only [Hp.size_setB]; omega, fun c hc => ?_⟩, by simp only [Hp.ro_setB]; omega, by simp only [Hp.size_setB]; omega, ?_, get_set_self, by decide, .inr ⟨rfl, by rw [hz'], ?_, ?_⟩, .int .i64 ((at' + 1 : Nat) : Int), .int .i64 (((hd - 16) / 2 : Nat) : Int), ?_, .bool true, ?_⟩⟩
          · rw [get_set_ne (by omega), get_set_ne (by omega), get_set_ne (by omega), zg c (by omega) (by omega), i1'.get c (by omega), k0k.get c hc]
          · rw [get_set_ne (by omega), get_set_ne (by omega), get_set_ne (by omega), zg _ (by omega) (by omega)]; exact j4
          · rw [get_set_ne (by omega), get_set_ne (by omega), get_set_self, hz']
          · rw [get_set_ne (by omega), get_set_self]
          · rw [get_set_ne (by omega), get_set_ne (by omega), get_set_self]
          · rw [get_set_ne (by omega), get_set_self])
    (fun h hi hz => ⟨.ready, none, k0k.trans hi.1, by have := hi.2; omega, by have := hi.1.size; omega, (hi.1.get _ (by omega)).trans k0d, (hi.1.get _ (by omega)).trans k0l, by decide, .inl ⟨rfl, hz⟩, _, _, ((hi.1.get _ (by omega)).trans (k0g _ (by omega))).trans e1, _, ((hi.1.get _ (by omega)).trans (k0g _ (by omega))).trans e2⟩)
    hres (h0 := k0) ⟨Keeps.refl _, rfl⟩
  obtain ⟨v, h2', er, st, pd, f1, f2, f3, f4, f5, f6, f7, x, y, f8, z, f9⟩ := r
  have ro8 : h2'.ro ≤ hb.size + 1 := by omega
  have f5' : h2'.get (hb.size + 1) = some (.loop st pd tm #[10, 11] asg' body' (k.size + 4)) := by rw [hs]; exact f5
  have hrr : ∀ j, (h2'.ro ≤ k.size + j) = True := fun j => by simp; omega
  have n1 : k.size + 1 < h2'.size := by omega
  have n2 : k.size + 2 < h2'.size := by omega
  have n4 : k.size + 4 < h2'.size := by omega
  have er' : evalV Tryz.prog I (M + 1) (.fn 205) #[.func (.yield (hb.size + 1)) #[] #[], .pointer (some ⟨k.size + 3, 0, none⟩)] k0 = some (v, h2') := by rw [hs]; exact er
  rcases f7 with ⟨rfl, hz⟩ | ⟨rfl, hz, hz1, hz2⟩
  · refine ⟨205, #[.func (.yield (hb.size + 1)) #[] #[], .pointer (some ⟨k.size + 3, 0, none⟩)], v, h2', .normal, _, by simp (maxDischargeDepth := 16) only [z0v, z3b, z3h, z4e, z4f, z4s, z4t, z4u, ↓reduceIte, hasBx205], er', leave_normal f5' f6 ro8, ?_⟩
    simp (maxDischargeDepth := 16) only [z05, z08, z09, z0d, z0e, z0h, z0o, z0p, z0q, z0s, z0t, z0u, z0v, z0w, z0z, z1b, z1f, z1w, z1x, z2n, z2o, z2x, z2y, z33, z35, z36, z3a, z3b, z3d, z3g, z3p, z3q, z3v, z3w, z3x, z3y, z3z, z41, z43, z44, z45, z46, z49, z4d, z4e, z4f, z4g, z4h, z4i, z4j, z4l, z4m, z4n, z4p, z4q, z4r, z4z, z50, z51, z52, z53, z5f, z72, z7n, z80, z81, Nat.reduceEqDiff, Nat.reduceAdd, Nat.reduceSub, ↓reduceIte, Hp.cell, Hp.row, Hp.wr, tBuildOkx152, tPartx4, tPartx152, tSizex4, tSizex152, tZerox152, hs, f8, f9, f4, hrr, ne_f n1, ne_f0 n1, lt_t n1, lt_t0 n1, ne_f n2, ne_f0 n2, lt_t n2, lt_t0 n2, ne_f n4, ne_f0 n4, lt_t n4, lt_t0 n4, finR_mark]
    subst hz
    exact Al.done ((((f1.set (by omega) _).set (by omega) _).set (by omega) _).set (by omega) _) (by simp only [Hp.ro_setB]; exact f2) rfl
  · refine ⟨205, #[.func (.yield (hb.size + 1)) #[] #[], .pointer (some ⟨k.size + 3, 0, none⟩)], v, h2', .ret, _, by simp (maxDischargeDepth := 16) only [z0v, z3b, z3h, z4e, z4f, z4s, z4t, z4u, ↓reduceIte, hasBx205], er', leave_ret f5' f6 ro8, ?_⟩
    simp (maxDischargeDepth := 16) only [z0f, z0i, z0o, z2x, z35, z36, z3a, z3b, z3d, z3g, z3x, z3y, z3z, z41, z43, z46, z4d, z4e, z4f, z4m, z4n, z4p, z4q, z4r, z4z, z52, z53, Nat.reduceEqDiff, Nat.reduceAdd, Nat.reduceSub, ↓reduceIte, Hp.cell, Hp.row, tPartx4, tPartx152, hs, hz1, hz2, f4, hrr, ne_f n1, ne_f0 n1, lt_t n1, lt_t0 n1, ne_f n2, ne_f0 n2, lt_t n2, lt_t0 n2, ne_f n4, ne_f0 n4, lt_t n4, lt_t0 n4, finR_mark]
    rw [hz]
    exact Al.done ((f1.set (by omega) _).set (by omega) _) (by simp only [Hp.ro_setB]; exact f2) rfl
def F178 (args : Array Value) (h : Hp) : Option Value :=
  match args.toList with
  | [.pointer (some ⟨ab, 0, none⟩), .int .i64 place] =>
    match h.get ab with
    | some (.cells cs _) =>
      match cs.toList with
      | [.slice (some ⟨wb, 0, none⟩) n _] =>
        match h.get wb with
        | some (.cells ws _) =>
          match wd ws 15 with
          | some e =>
            match Nat.ble e n && (Nat.blt 15 n && (Nat.blt n 4611686018427387904 && (Nat.blt ab h.size && Nat.blt wb h.size))) with
            | true =>
              match walkF ws e place (e + 50) 16 with
              | some res => some (.tuple #[.agg #[.int .i64 (res.1 : Int), .int .i64 (res.2.1 : Int)], .bool res.2.2])
              | none => none
            | false => none
          | none => none
        | _ => none
      | _ => none
    | _ => none
  | _ => none
theorem con178 : Con Tryz.prog (CKb Tryz.prog) 178 (fun args h => (F178 args h).map fun v => (v, h)) := Con.clean base ok0 fun args h v hv hro ha => by
  unfold F178 at hv
  split at hv
  · rename_i ab place hargs
    split at hv
    · rename_i cs o1 hA
      split at hv
      · rename_i wb n cap hcs
        split at hv
        · rename_i ws o2 hW
          split at hv
          · rename_i e he
            split at hv
            · rename_i hc
              simp only [Bool.and_eq_true] at hc
              obtain ⟨c1, c2, c3, c4, c5⟩ := hc
              split at hv
              · rename_i res hres
                cases hv
                have hA' : h.get ab = some (.cells #[.slice (some ⟨wb, 0, none⟩) n cap] o1) := by
                  rw [hA]; congr 2; apply Array.ext'; rw [hcs]
                obtain ⟨v, k, q1, q2, q3, rfl⟩ := run178 (I := I0) rfl rfl rfl rfl rfl (N := e + 61) (k := h) hA' hW (Nat.le_of_ble_eq_true c4) (Nat.le_of_ble_eq_true c5) he (Nat.le_of_ble_eq_true c1) (Nat.le_of_ble_eq_true c2) (Nat.le_of_ble_eq_true c3) hro (by omega) place (by rw [show e + 61 - 11 = e + 50 by omega]; exact hres)
                refine ⟨e + 61 + 1, k, ?_, q2.get, by simp⟩
                have : args = #[.pointer (some ⟨ab, 0, none⟩), .int .i64 place] := by
                  apply Array.ext'
                  rw [hargs]
                rw [this]
                exact q1
              · cases hv
            · cases hv
          · cases hv
        · cases hv
      · cases hv
    · cases hv
  · cases hv
end Go.Abs.D1
