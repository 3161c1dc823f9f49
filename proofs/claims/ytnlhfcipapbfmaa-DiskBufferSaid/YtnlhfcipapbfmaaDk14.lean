/- The disk: Sync, Crash, Arm, Fail, New. -/
import Derived.Test.YtnlhfcipapbfmaaDk13
namespace Go.Abs.B1
open Go.Proofs
set_option maxRecDepth 10000
set_option maxHeartbeats 4000000
set_option linter.all false
def syncS (D : DV) : DV × Int := if (actS D 0 true).2 = 0 then (emptyS (actS D 0 true).1 (fun _ => true), 0) else actS D 0 true
def crashS (D : DV) (ks : List Bool) : DV := (downL (fun i => (ks[i]?).getD false) D.1 D.2.1 0, [], -1, -1, false, D.2.2.2.2.2)
def armS (D : DV) (n : Int) : DV × Int := if D.2.2.2.2.1 = true then (D, 9) else ((D.1, D.2.1, max n (-1), D.2.2.2), 0)
def failS (D : DV) (n : Int) : DV × Int := if D.2.2.2.2.1 = true then (D, 9) else ((D.1, D.2.1, D.2.2.1, max n (-1), D.2.2.2.2), 0)
theorem m1ok : i64ok (-1) := ⟨by rw [i64_minmax.1]; omega, by rw [i64_minmax.2]; omega⟩
theorem max_ok {n : Int} (h : i64ok n) : i64ok (max n (-1)) := by
  obtain ⟨h1, h2⟩ := h
  have := m1ok
  exact ⟨by have := this.1; omega, by have := this.2; omega⟩
section
variable {I : Intr} {N : Nat} {k : Hp} {S : Nat → Prop} {b : Nat} {D : DV} {p : Nat → Prop}
theorem run_Sync2 (h1 : I 102 = none) (hN : 0 < N) {i : Int} : Al k (fun _ v => v = .bool true) (evalV Try.prog I N (.fn 102) #[.int .i64 i] k) := by
  obtain ⟨N, rfl⟩ : ∃ n, N = n + 1 := ⟨N - 1, by omega⟩
  rw [evalV_call (P := Try.prog) (intr := I) (f := 102) (m := 3) (rs := #[.tmp 2]) h1 Try.func102 rfl rfl rfl]
  simp (maxDischargeDepth := 16) only [z05, z08, z09, z0d, z0e, z0o, z0p, z0q, z0s, z0t, z0w, z11, z3b, z3c, z3f, z4e, z4f, z4g, z4h, z4i, z4p, z4q, z4r, z4s, z4t, z4u, z4w, z4x, z4y, z4z, z53, Nat.reduceSub]
  exact Al.done (by repeat (first | assumption | exact Keeps.refl _ | refine Keeps.push ?_ _ | refine Keeps.set ?_ (by first | omega | (simp only [Hp.size_push, Hp.size_setB]; omega)) _)) rfl rfl
theorem run_Sync (J : IDk I) (hN : 100 < N) (d : DiskAt S k b D) :
    Ex (fun v k' => v = .int .i64 (syncS D).2 ∧ Step S k k' b (syncS D).1) (evalV Try.prog I N (.fn 71) #[.pointer (some ⟨b, 0, none⟩)] k) := by
  obtain ⟨N, rfl⟩ : ∃ n, N = n + 1 := ⟨N - 1, by omega⟩
  have hS := d.own
  have hro := d.ro
  rw [evalV_call (P := Try.prog) (intr := I) (f := 71) (m := 6) (rs := #[.tmp 2]) J.Sync Try.func71 rfl rfl rfl]
  simp (maxDischargeDepth := 16) only [z08, z09, z0d, z0e, z0p, z0q, z0s, z0t, z0v, z0w, z0x, z0z, z11, z1d, z1e, z1h, z1l, z1v, z2p, z2x, z34, z3b, z3h, z4e, z4f, z4g, z4h, z4i, z4j, z4k, z4l, z4m, z4n, z4p, z4q, z4r, z4s, z4t, z4u, z4v, z4w, z4x, z4y, z53, Nat.reduceSub, ↓reduceIte, Hp.cell, hasBx85, tPartx89]
  refine ex_ev (S := fun v k' => v = .int .i64 (syncS D).2 ∧ Step S k k' b (syncS D).1) (Ex _) (fun k1 hk1 => ?_) ?_
  case refine_1 =>
   have gk : Keeps k k1 := by rw [hk1]; exact (by repeat (first | assumption | exact Keeps.refl _ | refine Keeps.push ?_ _ | refine Keeps.set ?_ (by first | omega | (simp only [Hp.size_push, Hp.size_setB]; omega)) _))
   have rk : k1.ro = k.ro := by rw [hk1]; rfl
   have sk : k1.size = k.size + 1 := by rw [hk1]; simp only [Hp.size_push]
   have n1 : k1.get k.size = some (.cells #[.pointer (some ⟨b, 0, none⟩)] true) := by rw [hk1]; simp (maxDischargeDepth := 16) only [z34, ↓reduceIte]
   have nS0 : ¬ S k.size := fun hj => by have := (hS _ hj).2; omega
   refine (run_act (N := N) (S := S) (b := b) (D := D) (k := k1) (i := 0) (w := true) (cl := [.pointer (some ⟨k.size, 0, none⟩)]) J.act J.power J.burns (by omega) (d.keep gk rk) hasBx101
    (Post := fun k' => DiskAt S k' b (emptyS (actS D 0 true).1 (fun _ => true)) ∧ Chg S k1 k') ?_).mono ?_
   · rintro M rfl he k2 d2 c2
     obtain ⟨M, rfl⟩ : ∃ n, M = n + 1 := ⟨M - 1, by omega⟩
     have s2 := c2.1
     have n2 : k2.get k.size = _ := (c2.2.2 _ (by omega) nS0).trans n1
     have m2 : k.size < k2.size := by omega
     rw [evalV_call (P := Try.prog) (intr := I) (f := 101) (m := 3) (rs := #[]) J.Sync1 Try.func101 rfl rfl rfl]
     simp (maxDischargeDepth := 16) only [z08, z0q, z0s, z0t, z0v, z0x, z0z, z1e, z1l, z1v, z2x, z3b, z3h, z4e, z4f, z4g, z4h, z4i, z4j, z4k, z4l, z4m, z4n, z4p, z4q, z4r, z4s, z4t, z4u, z4v, z4w, z4x, z4y, z53, Nat.reduceSub, ↓reduceIte, Hp.cell, tPartx89, hasBx83, n2, ne_f m2, ne_f0 m2, lt_t m2, lt_t0 m2]
     refine ex_any (Ex _) (run_empty (N := M) (g := 102) (gc := []) J (by omega) d2 hasBx102 (fun _ => true) (fun i M h _ hM _ => run_Sync2 J.Sync2 (by omega))) ?_
     rintro _ k3 ⟨rfl, d3, c3⟩
     simp (maxDischargeDepth := 16) only [z0d, z0n, z0p, z0s, z0t, z3e, z4g, z4h, z4i]
     exact ⟨_, _, rfl, d3, c2.trans c3⟩
   · rintro v k' ⟨rfl, f1, f2⟩
     by_cases he : (actS D 0 true).2 = 0
     · have ew : syncS D = (emptyS (actS D 0 true).1 (fun _ => true), 0) := by unfold syncS; rw [if_pos he]
       obtain ⟨g1, g2⟩ := f1 he
       rw [ew, he]
       exact ⟨rfl, Step.ahead gk rk hro (Step.of g1 g2 (by omega))⟩
     · have ew : syncS D = actS D 0 true := by unfold syncS; rw [if_neg he]
       obtain ⟨g1, g2⟩ := f2 he
       rw [ew]
       exact ⟨rfl, Step.ahead gk rk hro (Step.of g1 g2 (by omega))⟩
  case refine_2 =>
   rintro _ k' ⟨rfl, st⟩
   simp (maxDischargeDepth := 16) only [z05, z0d, z0e, z0o, z0p, z0q, z0s, z0t, z0v, z11, z3b, z3c, z3f, z4e, z4f, z4g, z4h, z4i, z4z]
   exact ⟨_, _, rfl, rfl, st⟩
theorem run_Crash1 (h1 : I 84 = none) (hN : 0 < N) {v : Value} {ks : List Bool} (r : (Rp.slice Rp.bool).r false p k [v] ks) (hp : ∀ c, p c → c < k.size) {C : Nat} (hC : k.get C = some (.cells #[v] true)) (hCk : C < k.size) {i : Nat} :
    Al k (fun _ v => v = .bool ((ks[i]?).getD false)) (evalV Try.prog I N (.fn 84) #[.int .i64 (i : Int), .pointer (some ⟨C, 0, none⟩)] k) := by
  obtain ⟨N, rfl⟩ : ∃ n, N = n + 1 := ⟨N - 1, by omega⟩
  obtain ⟨a, c, rfl, -, -⟩ := slice_form r
  rw [evalV_call (P := Try.prog) (intr := I) (f := 84) (m := 14) (rs := #[.tmp 3]) h1 Try.func84 rfl rfl rfl]
  by_cases hlt : i < ks.length
  · obtain ⟨y, hy⟩ : ∃ y, ks[i]? = some y := ⟨_, List.getElem?_eq_getElem hlt⟩
    obtain ⟨bb, off, _, cells, ow', part, ee, hb0, hg', -, hp', hle, hex, hcell⟩ := elem_at (s := 1) r hy rfl (by decide)
    cases ee
    obtain rfl := Rp.bool_inv hp'
    have hbb := hp bb hb0
    have h1 := hcell 0 (by omega)
    simp only [Nat.add_zero, Nat.mul_one, List.getElem?_cons_zero] at h1
    have hlt' := lt_cast hlt
    have hnn : (0 ≤ (i : Int)) = True := by simp
    simp (maxDischargeDepth := 16) only [z05, z08, z09, z0d, z0e, z0o, z0p, z0q, z0r, z0s, z0t, z0v, z0w, z0z, z10, z11, z12, z13, z18, z1e, z1p, z1r, z1v, z1y, z1z, z2d, z2u, z2x, z3b, z3c, z3f, z4e, z4f, z4g, z4h, z4i, z4m, z4n, z4o, z4p, z4q, z4r, z4s, z4t, z4u, z4w, z4x, z4y, z4z, z50, z51, z52, z53, z5a, z5e, Nat.reduceAdd, Nat.reduceSub, ↓reduceIte, yielded, Hp.cell, tElemx92, tLenx92, tPartx4, tPartx92, hC, ne_f hCk, ne_f0 hCk, lt_t hCk, lt_t0 hCk, hlt', hnn, hg', ne_f hbb, ne_f0 hbb, lt_t hbb, lt_t0 hbb, Int.toNat_natCast, Nat.mul_one, h1]
    exact Al.done (by repeat (first | assumption | exact Keeps.refl _ | refine Keeps.push ?_ _ | refine Keeps.set ?_ (by first | omega | (simp only [Hp.size_push, Hp.size_setB]; omega)) _)) rfl (by rw [hy]; rfl)
  · have hlt' := nlt_cast hlt
    simp (maxDischargeDepth := 16) only [z05, z08, z09, z0d, z0e, z0o, z0p, z0q, z0r, z0s, z0t, z0v, z0w, z0z, z10, z11, z12, z13, z1e, z1p, z1r, z1v, z1y, z2d, z2x, z3b, z3c, z3f, z3l, z4e, z4f, z4g, z4h, z4i, z4m, z4n, z4o, z4p, z4q, z4r, z4s, z4t, z4u, z4w, z4x, z4y, z4z, z52, z53, z59, z5b, Nat.reduceAdd, Nat.reduceSub, ↓reduceIte, yielded, Hp.cell, tLenx92, tPartx92, hC, ne_f hCk, ne_f0 hCk, lt_t hCk, lt_t0 hCk, hlt']
    exact Al.done (by repeat (first | assumption | exact Keeps.refl _ | refine Keeps.push ?_ _ | refine Keeps.set ?_ (by first | omega | (simp only [Hp.size_push, Hp.size_setB]; omega)) _)) rfl (by rw [List.getElem?_eq_none (by omega)]; rfl)
theorem run_Crash (J : IDk I) (hN : 100 < N) (d : DiskAt S k b D) {v : Value} {ks : List Bool} (r : (Rp.slice Rp.bool).r false p k [v] ks) (hp : ∀ c, p c → c < k.size ∧ ¬ S c) :
    Ex (fun v k' => v = .int .i64 0 ∧ Step S k k' b (crashS D ks)) (evalV Try.prog I N (.fn 44) #[.pointer (some ⟨b, 0, none⟩), v] k) := by
  obtain ⟨N, rfl⟩ : ∃ n, N = n + 1 := ⟨N - 1, by omega⟩
  have hS := d.own
  have hro := d.ro
  obtain ⟨a, c, rfl, -, -⟩ := slice_form r
  rw [evalV_call (P := Try.prog) (intr := I) (f := 44) (m := 19) (rs := #[.tmp 4]) J.Crash Try.func44 rfl rfl rfl]
  simp (maxDischargeDepth := 16) only [z04, z08, z09, z0a, z0c, z0d, z0e, z0p, z0q, z0s, z0t, z0v, z0w, z0x, z0z, z10, z11, z13, z1d, z1h, z1l, z2q, z3b, z3h, z4e, z4f, z4g, z4h, z4i, z4j, z4k, z4l, z4p, z4q, z4r, z4s, z4t, z4u, z4v, z4w, z4x, z4y, z53, z7i, z7m, Nat.reduceAdd, Nat.reduceSub, ↓reduceIte, hasBx83, tPtrx89]
  have kk : Keeps k (k.push (some (.cells #[.slice a ks.length c] true))) := (by repeat (first | assumption | exact Keeps.refl _ | refine Keeps.push ?_ _ | refine Keeps.set ?_ (by first | omega | (simp only [Hp.size_push, Hp.size_setB]; omega)) _))
  have nS0 : ¬ S k.size := fun hj => by have := (hS _ hj).2; omega
  refine ex_any (Ex _) (run_empty (N := N) (k := k.push (some (.cells #[.slice a ks.length c] true))) (g := 84) (gc := [.pointer (some ⟨k.size, 0, none⟩)]) J (by omega) (d.keep kk rfl) hasBx84 (fun i => (ks[i]?).getD false) (fun i M h _ hM hc => by
    have hs := hc.1
    simp only [Hp.size_push] at hs
    refine run_Crash1 J.Crash1 (by omega) (p := p) ((Rp.slice Rp.bool).mono r (fun _ h => h) id (Fr.of fun c hc' => ?_)) (fun c hc' => by have := (hp c hc').1; omega) ?_ (by omega)
    · rw [hc.2.2 c (by have := (hp c hc').1; simp only [Hp.size_push]; omega) (hp c hc').2, get_push_ne (by have := (hp c hc').1; omega)]
    · rw [hc.2.2 k.size (by simp only [Hp.size_push]; omega) nS0, get_push_self])) ?_
  rintro _ k2 ⟨rfl, d2, c2⟩
  have s2 := c2.1
  simp only [Hp.size_push] at s2
  have d20 := d2
  obtain ⟨pb, pc, bv, qb, g1, g2, a1, a2, a3, a4, a5, a6, a7, a8, a9, a10⟩ := d2
  have rb : (k2.ro ≤ b) = True := by simp; exact (a9 b a7).1
  simp (maxDischargeDepth := 16) only [z05, z08, z09, z0d, z0e, z0o, z0p, z0q, z0s, z0t, z0u, z0v, z0w, z0z, z10, z11, z16, z1c, z1f, z1w, z1x, z21, z2m, z2n, z2w, z2y, z33, z3b, z3c, z3f, z3p, z3q, z3v, z3w, z44, z45, z49, z4d, z4e, z4f, z4g, z4h, z4i, z4p, z4q, z4r, z4z, z50, z51, z53, z5f, z72, Nat.reduceLeDiff, Nat.reduceAdd, ↓reduceIte, Hp.wr, tFieldAx149x2, tFieldAx149x3, tFieldAx149x4, tSizex4, tSizex146, g1, ne_f a3, ne_f0 a3, lt_t a3, lt_t0 a3, rb]
  refine ⟨_, _, rfl, rfl, Step.ahead kk rfl hro (Step.of (DiskAt.head d20 (E := crashS D ks) rfl rfl ⟨a10.len, a10.rows, a10.sec, a10.nod, m1ok, m1ok, a10.ops⟩ (by simp only [Hp.size_setB]; omega) (by simp only [Hp.ro_setB]) (fun c _ hne => by rw [get_set_ne hne, get_set_ne hne, get_set_ne hne]) g1 (by rw [get_set_self]; rfl)) (((c2.set (.inl a7) _).set (.inl a7) _).set (.inl a7) _) (by simp only [Hp.size_push, Hp.ro_push]; omega))⟩
theorem run_Arm (J : IDk I) (hN : 3 < N) (d : DiskAt S k b D) {n : Int} (hn : i64ok n) :
    Ex (fun v k' => v = .int .i64 (armS D n).2 ∧ Step S k k' b (armS D n).1) (evalV Try.prog I N (.fn 72) #[.pointer (some ⟨b, 0, none⟩), .int .i64 n] k) := by
  obtain ⟨N, rfl⟩ : ∃ n, N = n + 1 := ⟨N - 1, by omega⟩
  have hro := d.ro
  have d0 := d
  have cp := run_power (N := N) J.power (by omega) d
  obtain ⟨pb, pc, bv, qb, g1, g2, a1, a2, a3, a4, a5, a6, a7, a8, a9, a10⟩ := d
  have rb : k.ro ≤ b := (a9 b a7).1
  rw [evalV_call (P := Try.prog) (intr := I) (f := 72) (m := 16) (rs := #[.tmp 4]) J.Arm Try.func72 rfl rfl rfl]
  by_cases q1 : D.2.2.2.2.1 = true
  · have e : armS D n = (D, 9) := by unfold armS; rw [if_pos q1]
    simp only [eq_true q1, if_true] at cp
    simp (maxDischargeDepth := 16) only [z04, z05, z08, z09, z0a, z0c, z0d, z0e, z0o, z0p, z0q, z0s, z0t, z0v, z0w, z0x, z0z, z10, z11, z13, z1l, z2b, z3b, z3c, z3f, z3h, z4e, z4f, z4g, z4h, z4i, z4j, z4k, z4l, z4p, z4q, z4r, z4s, z4t, z4u, z4v, z4w, z4x, z4y, z4z, z53, z5b, Nat.reduceAdd, Nat.reduceSub, ↓reduceIte, Int.reduceEq, hasBx103, cp]
    rw [e]
    exact ⟨_, _, rfl, rfl, Step.of d0 (Chg.refl _) hro⟩
  · have e : armS D n = ((D.1, D.2.1, max n (-1), D.2.2.2), 0) := by unfold armS; rw [if_neg q1]
    have c1 := run_cset (I := I) (N := N) (o := 2) (x := n) J.cset (by omega) g1 rfl rb a3
    simp only [q1, if_false] at cp
    simp (maxDischargeDepth := 16) only [z05, z08, z09, z0a, z0b, z0d, z0e, z0o, z0p, z0q, z0s, z0t, z0v, z0w, z0x, z0z, z10, z11, z13, z16, z1c, z1l, z21, z2b, z2w, z3b, z3c, z3f, z3h, z4e, z4f, z4g, z4h, z4i, z4j, z4k, z4l, z4p, z4q, z4r, z4s, z4t, z4u, z4v, z4w, z4x, z4y, z4z, z50, z51, z53, z59, z5a, Nat.reduceAdd, Nat.reduceSub, ↓reduceIte, hasBx103, hasBx104, tFieldAx149x2, cp, c1]
    rw [e]
    exact ⟨_, _, rfl, rfl, Step.of (DiskAt.head d0 (E := (D.1, D.2.1, max n (-1), D.2.2.2)) rfl rfl ⟨a10.len, a10.rows, a10.sec, a10.nod, max_ok hn, a10.flaw, a10.ops⟩ (by simp only [Hp.size_setB]; omega) (by simp only [Hp.ro_setB]) (fun c _ hne => by rw [get_set_ne hne]) g1 (by rw [get_set_self])) ((Chg.refl _).set (.inl a7) _) hro⟩
theorem run_Fail (J : IDk I) (hN : 3 < N) (d : DiskAt S k b D) {n : Int} (hn : i64ok n) :
    Ex (fun v k' => v = .int .i64 (failS D n).2 ∧ Step S k k' b (failS D n).1) (evalV Try.prog I N (.fn 73) #[.pointer (some ⟨b, 0, none⟩), .int .i64 n] k) := by
  obtain ⟨N, rfl⟩ : ∃ n, N = n + 1 := ⟨N - 1, by omega⟩
  have hro := d.ro
  have d0 := d
  have cp := run_power (N := N) J.power (by omega) d
  obtain ⟨pb, pc, bv, qb, g1, g2, a1, a2, a3, a4, a5, a6, a7, a8, a9, a10⟩ := d
  have rb : k.ro ≤ b := (a9 b a7).1
  rw [evalV_call (P := Try.prog) (intr := I) (f := 73) (m := 16) (rs := #[.tmp 4]) J.Fail Try.func73 rfl rfl rfl]
  by_cases q1 : D.2.2.2.2.1 = true
  · have e : failS D n = (D, 9) := by unfold failS; rw [if_pos q1]
    simp only [eq_true q1, if_true] at cp
    simp (maxDischargeDepth := 16) only [z04, z05, z08, z09, z0a, z0c, z0d, z0e, z0o, z0p, z0q, z0s, z0t, z0v, z0w, z0x, z0z, z10, z11, z13, z1l, z2b, z3b, z3c, z3f, z3h, z4e, z4f, z4g, z4h, z4i, z4j, z4k, z4l, z4p, z4q, z4r, z4s, z4t, z4u, z4v, z4w, z4x, z4y, z4z, z53, z5b, Nat.reduceAdd, Nat.reduceSub, ↓reduceIte, Int.reduceEq, hasBx103, cp]
    rw [e]
    exact ⟨_, _, rfl, rfl, Step.of d0 (Chg.refl _) hro⟩
  · have e : failS D n = ((D.1, D.2.1, D.2.2.1, max n (-1), D.2.2.2.2), 0) := by unfold failS; rw [if_neg q1]
    have c1 := run_cset (I := I) (N := N) (o := 3) (x := n) J.cset (by omega) g1 rfl rb a3
    simp only [q1, if_false] at cp
    simp (maxDischargeDepth := 16) only [z05, z08, z09, z0a, z0b, z0d, z0e, z0o, z0p, z0q, z0s, z0t, z0v, z0w, z0x, z0z, z10, z11, z13, z16, z1c, z1l, z21, z2b, z2w, z3b, z3c, z3f, z3h, z4e, z4f, z4g, z4h, z4i, z4j, z4k, z4l, z4p, z4q, z4r, z4s, z4t, z4u, z4v, z4w, z4x, z4y, z4z, z50, z51, z53, z59, z5a, Nat.reduceAdd, Nat.reduceSub, ↓reduceIte, hasBx103, hasBx104, tFieldAx149x3, cp, c1]
    rw [e]
    exact ⟨_, _, rfl, rfl, Step.of (DiskAt.head d0 (E := (D.1, D.2.1, D.2.2.1, max n (-1), D.2.2.2.2)) rfl rfl ⟨a10.len, a10.rows, a10.sec, a10.nod, a10.fuse, max_ok hn, a10.ops⟩ (by simp only [Hp.size_setB]; omega) (by simp only [Hp.ro_setB]) (fun c _ hne => by rw [get_set_ne hne]) g1 (by rw [get_set_self])) ((Chg.refl _).set (.inl a7) _) hro⟩
end
end Go.Abs.B1
