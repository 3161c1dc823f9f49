/- The disk: how it lies; counts, power. -/
import Derived.Test.YtnlhfcipapbfmaaDk2
import Derived.Test.YtnlhfcipapbfmaaAbsE
namespace Go.Abs.B1
open Go.Proofs
set_option maxRecDepth 10000
set_option maxHeartbeats 4000000
set_option linter.all false
abbrev DV := List (List Value) × List T167 × Int × Int × Bool × Int
abbrev nop : Nat → Prop := fun _ => False
def i64ok (x : Int) : Prop := IntKind.i64.min ≤ x ∧ x ≤ IntKind.i64.max
/-- What is so of a disk. -/
structure WF (D : DV) : Prop where
  len : D.1.length ≤ 2048
  rows : D.2.1.length ≤ 8
  sec : ∀ r ∈ D.2.1, 0 ≤ r.1 ∧ r.1 < (D.1.length : Int)
  nod : (D.2.1.map (·.1)).Nodup
  fuse : i64ok D.2.2.1
  flaw : i64ok D.2.2.2.1
  ops : i64ok D.2.2.2.2.2
/-- A disk at a block, whose own blocks S lets by. -/
def DiskAt (S : Nat → Prop) (k : Hp) (b : Nat) (D : DV) : Prop := ∃ pb pc bv qb,
  k.get b = some (.cells #[.slice (some ⟨pb, 0, none⟩) D.1.length D.1.length, bv, .int .i64 D.2.2.1, .int .i64 D.2.2.2.1, .bool D.2.2.2.2.1, .int .i64 D.2.2.2.2.2] true) ∧
  k.get pb = some (.cells pc true) ∧ rows R98 true nop k pc.toList D.1 ∧ OwnC R167 k bv qb D.2.1 ∧
  b < k.size ∧ pb < k.size ∧ b ≠ pb ∧ (∀ q, qb = some q → q < k.size ∧ q ≠ b ∧ q ≠ pb ∧ S q) ∧ S b ∧ S pb ∧ (∀ c, S c → k.ro ≤ c ∧ c < k.size) ∧ WF D
theorem frN {k k' : Hp} : Fr nop k k' := Fr.of fun b hb => hb.elim
theorem DiskAt.mono {S : Nat → Prop} {k k' : Hp} {b : Nat} {D : DV} (d : DiskAt S k b D) (hs : k.size ≤ k'.size) (hr : k'.ro = k.ro) (hg : ∀ c, S c → k'.get c = k.get c) : DiskAt S k' b D := by
  obtain ⟨pb, pc, bv, qb, g1, g2, h1, h2, h3, h4, h5, h6, h7, h8, h9, h10⟩ := d
  refine ⟨pb, pc, bv, qb, by rw [hg b h7]; exact g1, by rw [hg pb h8]; exact g2, h1.mono (fun _ h => h) id frN, h2.mono hs (fun q hq => hg q (h6 q hq).2.2.2), by omega, by omega, h5, fun q hq => ⟨by have := h6 q hq; omega, (h6 q hq).2⟩, h7, h8, fun c hc => ⟨by rw [hr]; exact (h9 c hc).1, by have := (h9 c hc).2; omega⟩, h10⟩
theorem DiskAt.wide {S T : Nat → Prop} {k : Hp} {b : Nat} {D : DV} (d : DiskAt S k b D) (h : ∀ c, S c → T c) (hT : ∀ c, T c → k.ro ≤ c ∧ c < k.size) : DiskAt T k b D := by
  obtain ⟨pb, pc, bv, qb, g1, g2, h1, h2, h3, h4, h5, h6, h7, h8, h9, h10⟩ := d
  exact ⟨pb, pc, bv, qb, g1, g2, h1, h2, h3, h4, h5, fun q hq => ⟨(h6 q hq).1, (h6 q hq).2.1, (h6 q hq).2.2.1, h _ (h6 q hq).2.2.2⟩, h _ h7, h _ h8, hT, h10⟩
theorem DiskAt.keep {S : Nat → Prop} {k k' : Hp} {b : Nat} {D : DV} (d : DiskAt S k b D) (hk : Keeps k k') (hr : k'.ro = k.ro) : DiskAt S k' b D := d.mono hk.size hr fun c hc => hk.get c (by
  obtain ⟨pb, pc, bv, qb, g1, g2, h1, h2, h3, h4, h5, h6, h7, h8, h9, h10⟩ := d
  exact (h9 c hc).2)
theorem DiskAt.wf {S : Nat → Prop} {k : Hp} {b : Nat} {D : DV} (d : DiskAt S k b D) : WF D := by
  obtain ⟨pb, pc, bv, qb, g1, g2, h1, h2, h3, h4, h5, h6, h7, h8, h9, h10⟩ := d
  exact h10
theorem DiskAt.own {S : Nat → Prop} {k : Hp} {b : Nat} {D : DV} (d : DiskAt S k b D) : ∀ c, S c → k.ro ≤ c ∧ c < k.size := by
  obtain ⟨pb, pc, bv, qb, g1, g2, h1, h2, h3, h4, h5, h6, h7, h8, h9, h10⟩ := d
  exact h9
/-- The head of a disk is turned: its fuse, flaw, power, acts. -/
theorem DiskAt.head {S : Nat → Prop} {k k' : Hp} {b : Nat} {D E : DV} (d : DiskAt S k b D) (h1 : E.1 = D.1) (h2 : E.2.1 = D.2.1) (w : WF E) (hs : k.size ≤ k'.size) (hr : k'.ro = k.ro) (hg : ∀ c, S c → c ≠ b → k'.get c = k.get c)
    {v u : Value} (hv : k.get b = some (.cells #[v, u, .int .i64 D.2.2.1, .int .i64 D.2.2.2.1, .bool D.2.2.2.2.1, .int .i64 D.2.2.2.2.2] true)) (hb : k'.get b = some (.cells #[v, u, .int .i64 E.2.2.1, .int .i64 E.2.2.2.1, .bool E.2.2.2.2.1, .int .i64 E.2.2.2.2.2] true)) : DiskAt S k' b E := by
  obtain ⟨pb, pc, bv, qb, g1, g2, a1, a2, a3, a4, a5, a6, a7, a8, a9, a10⟩ := d
  rw [g1] at hv
  simp only [Option.some.injEq, Blk.cells.injEq, Array.mk.injEq, List.cons.injEq, and_true] at hv
  obtain ⟨rfl, rfl⟩ := hv
  refine ⟨pb, pc, bv, qb, by rw [h1]; exact hb, by rw [hg pb a8 a5.symm]; exact g2, by rw [h1]; exact a1.mono (fun _ h => h) id frN, by rw [h2]; exact a2.mono hs (fun q hq => hg q (a6 q hq).2.2.2 (a6 q hq).2.1), by omega, by omega, a5, fun q hq => ⟨by have := a6 q hq; omega, (a6 q hq).2⟩, a7, a8, fun c hc => ⟨by rw [hr]; exact (a9 c hc).1, by have := (a9 c hc).2; omega⟩, w⟩
section
variable {I : Intr} {N : Nat} {k : Hp} {S : Nat → Prop} {b : Nat} {D : DV}
/-- power: is a disk there, has it power? -/
theorem run_power (h1 : I 103 = none) (hN : 0 < N) (d : DiskAt S k b D) : evalV Try.prog I N (.fn 103) #[.pointer (some ⟨b, 0, none⟩)] k = some (.int .i64 (if D.2.2.2.2.1 = true then 9 else 0), k) := by
  obtain ⟨N, rfl⟩ : ∃ n, N = n + 1 := ⟨N - 1, by omega⟩
  obtain ⟨pb, pc, bv, qb, g1, -⟩ := d
  rw [evalV_call (P := Try.prog) (intr := I) (f := 103) (m := 11) (rs := #[.tmp 2]) h1 Try.func103 rfl rfl rfl]
  cases hd : D.2.2.2.2.1 <;> rw [hd] at g1 <;> simp (maxDischargeDepth := 16) only [z04, z05, z08, z09, z0a, z0b, z0c, z0d, z0e, z0f, z0h, z0i, z0o, z0p, z0q, z0s, z0t, z0v, z0w, z0z, z10, z11, z13, z16, z1c, z1e, z1v, z21, z2w, z2x, z3b, z3c, z3f, z4e, z4f, z4g, z4h, z4i, z4m, z4n, z4o, z4p, z4q, z4r, z4s, z4t, z4u, z4w, z4x, z4y, z4z, z50, z51, z53, z59, z7i, z7m, evalC_block, Nat.reduceSub, ↓reduceIte, Hp.cell, tFieldAx149x4, tPartx4, tPtrx89, g1]
theorem run_power_nil (h1 : I 103 = none) (hN : 0 < N) : evalV Try.prog I N (.fn 103) #[.pointer none] k = some (.int .i64 1, k) := by
  obtain ⟨N, rfl⟩ : ∃ n, N = n + 1 := ⟨N - 1, by omega⟩
  rw [evalV_call (P := Try.prog) (intr := I) (f := 103) (m := 11) (rs := #[.tmp 2]) h1 Try.func103 rfl rfl rfl]
  simp (maxDischargeDepth := 16) only [z05, z08, z09, z0a, z0b, z0d, z0e, z0f, z0i, z0o, z0p, z0q, z0s, z0t, z0v, z0w, z0z, z10, z11, z13, z3b, z3c, z3f, z4e, z4f, z4g, z4h, z4i, z4p, z4q, z4r, z4s, z4t, z4u, z4w, z4x, z4y, z4z, z53, z7i, z7n, evalC_block, Nat.reduceSub, tPtrx89]
theorem run_Len (h1 : I 49 = none) (hN : 0 < N) (d : DiskAt S k b D) : evalV Try.prog I N (.fn 49) #[.pointer (some ⟨b, 0, none⟩)] k = some (.int .i64 (D.1.length : Int), k) := by
  obtain ⟨N, rfl⟩ : ∃ n, N = n + 1 := ⟨N - 1, by omega⟩
  obtain ⟨pb, pc, bv, qb, g1, -⟩ := d
  rw [evalV_call (P := Try.prog) (intr := I) (f := 49) (m := 10) (rs := #[.tmp 2]) h1 Try.func49 rfl rfl rfl]
  simp (maxDischargeDepth := 16) only [z04, z05, z08, z09, z0a, z0c, z0d, z0e, z0o, z0p, z0q, z0s, z0t, z0v, z0w, z0z, z10, z11, z13, z16, z1c, z1e, z1p, z1r, z1v, z21, z2w, z2x, z3b, z3c, z3f, z4e, z4f, z4g, z4h, z4i, z4m, z4n, z4p, z4q, z4r, z4s, z4t, z4u, z4w, z4x, z4y, z4z, z50, z51, z53, z54, z7i, z7m, Nat.reduceSub, Hp.cell, tFieldAx149x0, tLenx110, tPartx110, tPtrx89, g1]
theorem run_Dead (h1 : I 50 = none) (hN : 0 < N) (d : DiskAt S k b D) : evalV Try.prog I N (.fn 50) #[.pointer (some ⟨b, 0, none⟩)] k = some (.bool D.2.2.2.2.1, k) := by
  obtain ⟨N, rfl⟩ : ∃ n, N = n + 1 := ⟨N - 1, by omega⟩
  obtain ⟨pb, pc, bv, qb, g1, -⟩ := d
  rw [evalV_call (P := Try.prog) (intr := I) (f := 50) (m := 11) (rs := #[.tmp 2]) h1 Try.func50 rfl rfl rfl]
  simp (maxDischargeDepth := 16) only [z05, z08, z09, z0d, z0e, z0o, z0p, z0q, z0r, z0s, z0t, z0v, z0w, z0z, z10, z11, z12, z13, z16, z1c, z1e, z1v, z1y, z21, z2w, z2x, z3b, z3c, z3f, z4e, z4f, z4g, z4h, z4i, z4m, z4n, z4o, z4p, z4q, z4r, z4s, z4t, z4u, z4w, z4x, z4y, z4z, z50, z51, z52, z53, z5d, z5e, z7j, z7m, Nat.reduceSub, ↓reduceIte, yielded, Hp.cell, tFieldAx149x4, tPartx4, tPtrx89, g1]
theorem run_Ops (h1 : I 51 = none) (hN : 0 < N) (d : DiskAt S k b D) : evalV Try.prog I N (.fn 51) #[.pointer (some ⟨b, 0, none⟩)] k = some (.int .i64 D.2.2.2.2.2, k) := by
  obtain ⟨N, rfl⟩ : ∃ n, N = n + 1 := ⟨N - 1, by omega⟩
  obtain ⟨pb, pc, bv, qb, g1, -⟩ := d
  rw [evalV_call (P := Try.prog) (intr := I) (f := 51) (m := 9) (rs := #[.tmp 2]) h1 Try.func51 rfl rfl rfl]
  simp (maxDischargeDepth := 16) only [z04, z05, z08, z09, z0a, z0c, z0d, z0e, z0o, z0p, z0q, z0s, z0t, z0v, z0w, z0z, z10, z11, z13, z16, z1c, z1e, z1v, z21, z2w, z2x, z3b, z3c, z3f, z4e, z4f, z4g, z4h, z4i, z4m, z4n, z4o, z4p, z4q, z4r, z4s, z4t, z4u, z4w, z4x, z4y, z4z, z50, z51, z53, z7i, z7m, Nat.reduceSub, Hp.cell, tFieldAx149x5, tPartx3, tPtrx89, g1]
end
end Go.Abs.B1
