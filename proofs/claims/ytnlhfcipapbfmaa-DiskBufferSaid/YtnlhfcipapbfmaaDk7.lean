/- The disk: Read. -/
import Derived.Test.YtnlhfcipapbfmaaDk6
namespace Go.Abs.B1
open Go.Proofs
set_option maxRecDepth 10000
set_option maxHeartbeats 4000000
set_option linter.all false
theorem actS_ok {D : DV} {i : Int} {w : Bool} (h : (actS D i w).2 = 0) : ∃ n : Nat, i = (n : Int) ∧ n < D.1.length := by
  unfold actS at h
  split at h
  · simp at h
  split at h
  · simp at h
  · rename_i h1
    exact ⟨i.toNat, by omega, by omega⟩
theorem showS_act (D : DV) (i j : Int) (w : Bool) : showS (actS D i w).1 j = showS D j := by
  unfold showS
  rw [(actS_keeps D i w).1, (actS_keeps D i w).2]
/-- What a read tells. -/
def readS (D : DV) (i : Int) : DV × List Value × Int := ((actS D i false).1, if (actS D i false).2 = 0 then showS D i else zeroB, (actS D i false).2)
theorem flat_rep {x : Int} (h : IntKind.u8.min ≤ x ∧ x ≤ IntKind.u8.max) : ∀ n : Nat, flatOk (List.replicate n (.int .u8)) (List.replicate n (.int .u8 x))
  | 0 => trivial
  | n + 1 => ⟨⟨rfl, h⟩, flat_rep h n⟩
theorem flat_zeroB : flatOk K98 zeroB := flat_rep (x := 0) (by decide) 64
section
variable {I : Intr} {N : Nat} {k : Hp} {S : Nat → Prop} {b : Nat} {D : DV} {p : Nat → Prop}
theorem run_Read (h : I 46 = none) (ha : I 85 = none) (hp : I 103 = none) (hb : I 109 = none) (h0 : I 86 = none) (h1 : I 87 = none) (h2 : I 110 = none) (h3 : I 111 = none) (hN : 60 < N) (d : DiskAt S k b D) {i : Int} :
    Ex (fun v k' => v = .tuple #[.agg (readS D i).2.1.toArray, .int .i64 (readS D i).2.2] ∧ DiskAt S k' b (readS D i).1 ∧ Chg S k k' ∧ flatOk K98 (readS D i).2.1) (evalV Try.prog I N (.fn 46) #[.pointer (some ⟨b, 0, none⟩), .int .i64 i] k) := by
  obtain ⟨N, rfl⟩ : ∃ n, N = n + 1 := ⟨N - 1, by omega⟩
  have hS := d.own
  have hro : k.ro ≤ k.size := by
    obtain ⟨pb, pc, bv, qb, g1, g2, a1, a2, a3, a4, a5, a6, a7, a8, a9, a10⟩ := d
    have := a9 b a7; omega
  have r0 : ∀ j, (k.ro ≤ k.size + j) = True := fun j => by simp; omega
  rw [evalV_call (P := Try.prog) (intr := I) (f := 46) (m := 12) (rs := #[.cell 4 98, .tmp 5]) h Try.func46 rfl rfl rfl]
  simp (maxDischargeDepth := 16) only [z08, z09, z0d, z0e, z0p, z0q, z0s, z0t, z0v, z0w, z0x, z0z, z11, z1d, z1e, z1g, z1h, z1l, z1v, z2m, z2p, z2x, z2z, z34, z36, z38, z39, z3a, z3b, z3h, z4a, z4e, z4f, z4g, z4h, z4i, z4j, z4k, z4l, z4m, z4n, z4p, z4q, z4r, z4s, z4t, z4u, z4v, z4w, z4x, z4y, z4z, z53, Nat.reduceEqDiff, Nat.reduceAdd, Nat.reduceSub, ↓reduceIte, Hp.cell, hasBx85, tPartx3, tPartx89, tZerox98]
  refine ex_ev (S := fun v k' => v = .int .i64 (actS D i false).2 ∧ DiskAt S k' b (actS D i false).1 ∧ Chg S k k' ∧ k.size + 3 ≤ k'.size ∧ ∃ out : List Value, out = (readS D i).2.1 ∧ flatOk K98 out ∧ k'.get (k.size + 2) = some (.cells out.toArray true)) (Ex _) (fun k1 hk1 => ?_) ?_
  case refine_1 =>
   have gk : Keeps k k1 := by rw [hk1]; exact (by repeat (first | assumption | exact Keeps.refl _ | refine Keeps.push ?_ _ | refine Keeps.set ?_ (by first | omega | (simp only [Hp.size_push, Hp.size_setB]; omega)) _))
   have rk : k1.ro = k.ro := by rw [hk1]; rfl
   have sk : k1.size = k.size + 3 := by rw [hk1]; simp only [Hp.size_push]
   have n1 : k1.get k.size = some (.cells #[.pointer (some ⟨b, 0, none⟩)] true) := by rw [hk1]; simp (maxDischargeDepth := 16) only [z34, z38, z39, z3a, z4a, Nat.reduceEqDiff, Nat.reduceAdd, ↓reduceIte]
   have n2 : k1.get (k.size + 1) = some (.cells #[.int .i64 i] true) := by rw [hk1]; simp (maxDischargeDepth := 16) only [z34, z36, z3a, z4a, Nat.reduceEqDiff, Nat.reduceAdd, ↓reduceIte]
   have n3 : k1.get (k.size + 2) = some (.cells zeroB.toArray true) := by rw [hk1]; simp (maxDischargeDepth := 16) only [z34, z3a, z4a, Nat.reduceAdd, ↓reduceIte]; rfl
   refine (run_act (N := N) (S := S) (b := b) (D := D) (k := k1) (i := i) (w := false) (cl := [.pointer (some ⟨k.size, 0, none⟩), .pointer (some ⟨k.size + 1, 0, none⟩), .pointer (some ⟨k.size + 2, 0, none⟩)]) ha hp hb (by omega) (d.keep gk rk) hasBx86
    (Post := fun k' => DiskAt S k' b (actS D i false).1 ∧ Chg S k k' ∧ k.size + 3 ≤ k'.size ∧ flatOk K98 (showS D i) ∧ k'.get (k.size + 2) = some (.cells (showS D i).toArray true)) ?_).mono ?_
   · rintro M rfl he k2 d2 c2
     obtain ⟨n, rfl, hn⟩ := actS_ok he
     have nS : ∀ j, ¬ S (k.size + j) := fun j hj => by have := (hS _ hj).2; omega
     have nS0 : ¬ S k.size := nS 0
     have s2 := c2.1
     refine (run_Read1 (N := M) (n := n) h0 h1 h2 h3 (by omega) d2 (by rw [(actS_keeps D n false).1]; exact hn) ((c2.2.2 _ (by omega) nS0).trans n1) ((c2.2.2 _ (by omega) (nS 1)).trans n2) ((c2.2.2 _ (by omega) (nS 2)).trans n3) rfl (by omega) (by omega) (by omega) (by rw [c2.2.1]; omega) (nS 2) (by omega)).mono ?_
     rintro v k3 ⟨f1, f2, f3⟩
     rw [showS_act] at f1 f3
     exact ⟨d2.mono f2.1 f2.2.1 (fun c hc => f2.2.2 c (by have := (hS c hc).2; omega) (fun e => nS 2 (e ▸ hc))), ((Chg.of gk rk).trans c2).trans' f2 (fun c hc => .inr (by omega)), by have := f2.1; omega, f3, f1⟩
   · rintro v k' ⟨rfl, f1, f2⟩
     by_cases he : (actS D i false).2 = 0
     · obtain ⟨g1, g2, g5, g3, g4⟩ := f1 he
       exact ⟨rfl, g1, g2, g5, _, rfl, by simp only [readS, he, if_true]; exact g3, by simp only [readS, he, if_true]; exact g4⟩
     · obtain ⟨g1, g2⟩ := f2 he
       exact ⟨rfl, g1, (Chg.of gk rk).trans g2, by have := g2.1; omega, _, rfl, by simp only [readS, he, if_false]; exact flat_zeroB, by simp only [readS, he, if_false]; rw [g2.2.2 _ (by omega) (fun h => by have := (hS _ h).2; omega)]; exact n3⟩
  case refine_2 =>
   rintro _ k' ⟨rfl, d2, c2, s3, out, ho, hf, hg⟩
   have s2 := c2.1
   have h64 : out.length = 64 := hf.len
   have tk : out.take 64 = out := List.take_of_length_le (by omega)
   have hr : (k'.ro ≤ k.size + 2) = True := by rw [c2.2.1]; exact r0 2
   have s64 : 64 ≤ out.length := by omega
   have sp := splice_full (cs := out.toArray) (vs := out) (by simp)
   simp (maxDischargeDepth := 16) only [z05, z08, z09, z0d, z0e, z0o, z0p, z0q, z0s, z0t, z0u, z0v, z0z, z10, z11, z1e, z1f, z1v, z1w, z1x, z2o, z2x, z2y, z33, z3b, z3d, z3f, z3g, z3x, z3y, z3z, z46, z49, z4e, z4f, z4g, z4h, z4i, z4p, z4z, z52, z53, z72, Nat.reduceSub, ↓reduceIte, Hp.row, Hp.wr, tPartx98, tSizex98, hg, h64, tk, hr, flat_all1 hf, sp]
   exact ⟨_, _, rfl, by rw [← ho]; rfl, d2.mono (by simp) rfl (fun c hc => get_set_ne (fun e => by have := (hS c hc).2; omega)), c2.set (.inr (by omega)) _, ho ▸ hf⟩
end
end Go.Abs.B1
