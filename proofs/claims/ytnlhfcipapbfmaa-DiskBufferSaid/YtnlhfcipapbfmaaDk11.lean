/- The disk: Write; the rows of the buffer, one after the other. -/
import Derived.Test.YtnlhfcipapbfmaaDk10
namespace Go.Abs.B1
open Go.Proofs
set_option maxRecDepth 10000
set_option maxHeartbeats 4000000
set_option linter.all false
def grow (S : Nat → Prop) (h k : Hp) : Nat → Prop := fun c => S c ∨ h.size ≤ c ∧ c < k.size
/-- What a deed makes of a disk. -/
def Step (S : Nat → Prop) (h k : Hp) (b : Nat) (D : DV) : Prop := DiskAt (grow S h k) k b D ∧ Chg S h k
theorem Step.of {S : Nat → Prop} {h k : Hp} {b : Nat} {D : DV} (d : DiskAt S k b D) (c : Chg S h k) (hro : h.ro ≤ h.size) : Step S h k b D :=
  ⟨d.wide (fun _ h => .inl h) fun c' hc => by
    rcases hc with hc | hc
    · exact d.own c' hc
    · have := c.2.1; omega, c⟩
theorem Step.trans {S : Nat → Prop} {h k l : Hp} {b : Nat} {D E : DV} (a : Step S h k b D) (x : Step (grow S h k) k l b E) (hro : h.ro ≤ h.size) : Step S h l b E := by
  have s1 := a.2.1
  have s2 := x.2.1
  refine ⟨x.1.wide (fun c hc => ?_) (fun c hc => ?_), a.2.trans' x.2 fun c hc => ?_⟩
  · rcases hc with (hc | hc) | hc
    · exact .inl hc
    · exact .inr ⟨hc.1, by omega⟩
    · exact .inr ⟨by omega, hc.2⟩
  · rcases hc with hc | hc
    · exact x.1.own c (.inl (.inl hc))
    · have := a.2.2.1; have := x.2.2.1; omega
  · rcases hc with hc | hc
    · exact .inl hc
    · exact .inr hc.1
/-- Ahead of it something was made. -/
theorem Step.ahead {S : Nat → Prop} {h k l : Hp} {b : Nat} {E : DV} (hk : Keeps h k) (hr : k.ro = h.ro) (hro : h.ro ≤ h.size) (x : Step S k l b E) : Step S h l b E := by
  have s1 := hk.size
  have s2 := x.2.1
  refine ⟨x.1.wide (fun c hc => ?_) (fun c hc => ?_), (Chg.of hk hr).trans x.2⟩
  · rcases hc with hc | hc
    · exact .inl hc
    · exact .inr ⟨by omega, hc.2⟩
  · rcases hc with hc | hc
    · exact x.1.own c (.inl hc)
    · have := x.2.2.1; omega
theorem Step.behind {S : Nat → Prop} {h k l : Hp} {b : Nat} {E : DV} (x : Step S h k b E) (hk : Keeps k l) (hr : l.ro = k.ro) (hro : h.ro ≤ h.size) : Step S h l b E := by
  have s1 := hk.size
  refine ⟨(x.1.keep hk hr).wide (fun c hc => ?_) (fun c hc => ?_), x.2.trans (Chg.of hk hr)⟩
  · rcases hc with hc | hc
    · exact .inl hc
    · exact .inr ⟨hc.1, by omega⟩
  · rcases hc with hc | hc
    · have := x.1.own c (.inl hc); omega
    · have := x.2.2.1; omega
theorem DiskAt.ro {S : Nat → Prop} {k : Hp} {b : Nat} {D : DV} (d : DiskAt S k b D) : k.ro ≤ k.size := by
  obtain ⟨pb, pc, bv, qb, g1, g2, a1, a2, a3, a4, a5, a6, a7, a8, a9, a10⟩ := d
  have := a9 b a7; omega
/-- What a write makes of a disk, and what comes of it. -/
def writeS (D : DV) (i : Int) (x : List Value) : DV × Int := if (actS D i true).2 = 0 then (putS (actS D i true).1 i x, 0) else actS D i true
section
variable {I : Intr} {N : Nat} {k : Hp} {S : Nat → Prop} {b : Nat} {D : DV} {p : Nat → Prop}
structure IDk (I : Intr) : Prop where
  Read : I 46 = none
  Write : I 69 = none
  Sync : I 71 = none
  Crash : I 44 = none
  Arm : I 72 = none
  Fail : I 73 = none
  act : I 85 = none
  power : I 103 = none
  burns : I 109 = none
  cset : I 104 = none
  Read1 : I 86 = none
  Write1 : I 97 = none
  Sync1 : I 101 = none
  Sync2 : I 102 = none
  Crash1 : I 84 = none
  rows : I 70 = none
  rows1 : I 100 = none
  empty : I 83 = none
  held : I 87 = none
  IndexFunc : I 110 = none
  held1 : I 111 = none
  down : I 98 = none
  Delete : I 99 = none
  Pending : I 37 = none
  Len : I 49 = none
  Dead : I 50 = none
  Ops : I 51 = none
  Copy : I 48 = none
  CloneRow : I 88 = none
  New : I 36 = none
theorem run_Write (J : IDk I) (hN : 60 < N) (d : DiskAt S k b D) {i : Int} {x : List Value} (hf : flatOk K98 x) :
    Ex (fun v k' => v = .int .i64 (writeS D i x).2 ∧ Step S k k' b (writeS D i x).1) (evalV Try.prog I N (.fn 69) #[.pointer (some ⟨b, 0, none⟩), .int .i64 i, .agg x.toArray] k) := by
  obtain ⟨N, rfl⟩ : ∃ n, N = n + 1 := ⟨N - 1, by omega⟩
  have hS := d.own
  have hro := d.ro
  have hl64 : x.length = 64 := hf.len
  rw [evalV_call (P := Try.prog) (intr := I) (f := 69) (m := 11) (rs := #[.tmp 6]) J.Write Try.func69 rfl rfl rfl]
  simp (maxDischargeDepth := 16) only [z08, z09, z0d, z0e, z0p, z0q, z0s, z0t, z0v, z0w, z0x, z0z, z11, z1d, z1e, z1h, z1l, z1v, z2m, z2o, z2p, z2x, z34, z36, z38, z39, z3a, z3b, z3h, z4a, z4e, z4f, z4g, z4h, z4i, z4j, z4k, z4l, z4m, z4n, z4p, z4q, z4r, z4s, z4t, z4u, z4v, z4w, z4x, z4y, z53, Nat.reduceEqDiff, Nat.reduceAdd, Nat.reduceSub, ↓reduceIte, Hp.cell, hasBx85, tPartx3, tPartx89]
  refine ex_ev (S := fun v k' => v = .int .i64 (writeS D i x).2 ∧ Step S k k' b (writeS D i x).1) (Ex _) (fun k1 hk1 => ?_) ?_
  case refine_1 =>
   have gk : Keeps k k1 := by rw [hk1]; exact (by repeat (first | assumption | exact Keeps.refl _ | refine Keeps.push ?_ _ | refine Keeps.set ?_ (by first | omega | (simp only [Hp.size_push, Hp.size_setB]; omega)) _))
   have rk : k1.ro = k.ro := by rw [hk1]; rfl
   have sk : k1.size = k.size + 3 := by rw [hk1]; simp only [Hp.size_push]
   have n1 : k1.get k.size = some (.cells #[.pointer (some ⟨b, 0, none⟩)] true) := by rw [hk1]; simp (maxDischargeDepth := 16) only [z34, z38, z39, z3a, z4a, Nat.reduceEqDiff, Nat.reduceAdd, ↓reduceIte]
   have n2 : k1.get (k.size + 1) = some (.cells #[.int .i64 i] true) := by rw [hk1]; simp (maxDischargeDepth := 16) only [z34, z36, z3a, z4a, Nat.reduceEqDiff, Nat.reduceAdd, ↓reduceIte]
   have n3 : k1.get (k.size + 2) = some (.cells x.toArray true) := by rw [hk1]; simp (maxDischargeDepth := 16) only [z34, z3a, z4a, Nat.reduceAdd, ↓reduceIte]
   have nS : ∀ j, ¬ S (k.size + j) := fun j hj => by have := (hS _ hj).2; omega
   have nS0 : ¬ S k.size := nS 0
   refine (run_act (N := N) (S := S) (b := b) (D := D) (k := k1) (i := i) (w := true) (cl := [.pointer (some ⟨k.size, 0, none⟩), .pointer (some ⟨k.size + 1, 0, none⟩), .pointer (some ⟨k.size + 2, 0, none⟩)]) J.act J.power J.burns (by omega) (d.keep gk rk) hasBx97
    (Post := fun k' => Step S k1 k' b (putS (actS D i true).1 i x)) ?_).mono ?_
   · rintro M rfl he k2 d2 c2
     obtain ⟨n, rfl, hn⟩ := actS_ok he
     have s2 := c2.1
     refine (run_Write1 (N := M) (n := n) J.Write1 J.held J.IndexFunc J.held1 J.down J.Delete (by omega) d2 (by rw [(actS_keeps D n true).1]; exact hn) ((c2.2.2 _ (by omega) nS0).trans n1) ((c2.2.2 _ (by omega) (nS 1)).trans n2) ((c2.2.2 _ (by omega) (nS 2)).trans n3) hf (by omega) (by omega) (by omega) ⟨nS0, nS 1, nS 2⟩ (by omega)).mono ?_
     rintro v k3 ⟨f1, f2⟩
     have s3 := f2.1
     refine ⟨f1.wide (fun c hc => ?_) (fun c hc => ?_), c2.trans f2⟩
     · rcases hc with hc | hc
       · exact .inl hc
       · exact .inr ⟨by omega, hc.2⟩
     · rcases hc with hc | hc
       · exact f1.own c (.inl hc)
       · have := c2.2.1; have := f2.2.1; omega
   · rintro v k' ⟨rfl, f1, f2⟩
     by_cases he : (actS D i true).2 = 0
     · have ew : writeS D i x = (putS (actS D i true).1 i x, 0) := by unfold writeS; rw [if_pos he]
       rw [ew, he]
       exact ⟨rfl, Step.ahead gk rk hro (f1 he)⟩
     · have ew : writeS D i x = actS D i true := by unfold writeS; rw [if_neg he]
       obtain ⟨g1, g2⟩ := f2 he
       rw [ew]
       exact ⟨rfl, Step.ahead gk rk hro (Step.of g1 g2 (by omega))⟩
  case refine_2 =>
   rintro _ k' ⟨rfl, st⟩
   simp (maxDischargeDepth := 16) only [z05, z0d, z0e, z0o, z0p, z0q, z0s, z0t, z0v, z11, z3b, z3c, z3f, z4e, z4f, z4g, z4h, z4i, z4z]
   exact ⟨_, _, rfl, rfl, st⟩
end
end Go.Abs.B1
