/- Does a disk tell what the document does? -/
import Derived.Test.YtnlhfcipapbfmaaDoorDe25
namespace Go.Abs.B1d
open Go.Proofs
set_option maxRecDepth 10000
set_option maxHeartbeats 4000000
set_option linter.all false
section
variable {I : Intr} {N : Nat} {k : Hp} {S : Nat → Prop} {b : Nat} {D : DV} {p : Nat → Prop}
theorem DiskAt.head_get (d : DiskAt S k b D) : ∃ pb bv, k.get b = some (.cells #[.slice (some ⟨pb, 0, none⟩) D.1.length D.1.length, bv, .int .i64 D.2.2.1, .int .i64 D.2.2.2.1, .bool D.2.2.2.2.1, .int .i64 D.2.2.2.2.2] true) ∧ b < k.size := by
  obtain ⟨pb, pc, bv, qb, g1, g2, a1, a2, a3, -⟩ := d
  exact ⟨pb, bv, g1, a3⟩
section
variable {pb n n' : Nat} {bv w1 w2 w3 w4 : Value} {ow : Bool}
theorem run_DeadG {d : Bool} (h1 : I 13 = none) (hN : 0 < N) (g1 : k.get b = some (.cells #[.slice (some ⟨pb, 0, none⟩) n n', bv, w1, w2, .bool d, w4] ow)) : Al k (fun k' v => v = .bool d ∧ k'.size = k.size) (evalV Tryd.prog I N (.fn 13) #[.pointer (some ⟨b, 0, none⟩)] k) := by
  obtain ⟨N, rfl⟩ : ∃ n, N = n + 1 := ⟨N - 1, by omega⟩
  rw [evalV_call (P := Tryd.prog) (intr := I) (f := 13) (m := 11) (rs := #[.tmp 2]) h1 Tryd.func13 rfl rfl rfl]
  simp (maxDischargeDepth := 16) only [z05, z08, z09, z0d, z0e, z0o, z0p, z0q, z0r, z0s, z0t, z0v, z0w, z0z, z10, z11, z12, z13, z16, z1c, z1e, z1v, z1y, z21, z2w, z2x, z3b, z3c, z3f, z4e, z4f, z4g, z4h, z4i, z4m, z4n, z4o, z4p, z4q, z4r, z4s, z4t, z4u, z4w, z4x, z4y, z4z, z50, z51, z52, z53, z5d, z5e, z7j, z7m, Nat.reduceSub, ↓reduceIte, yielded, Hp.cell, tFieldAx69x4, tPartx4, tPtrx25, g1]
  exact Al.done (by repeat (first | assumption | exact Keeps.refl _ | refine Keeps.push ?_ _ | refine Keeps.set ?_ (by first | omega | (simp only [Hp.size_push, Hp.size_setB]; omega)) _)) rfl ⟨rfl, rfl⟩
theorem run_OpsG {i : Int} (h1 : I 19 = none) (hN : 0 < N) (g1 : k.get b = some (.cells #[.slice (some ⟨pb, 0, none⟩) n n', bv, w1, w2, w3, .int .i64 i] ow)) : Al k (fun k' v => v = .int .i64 i ∧ k'.size = k.size) (evalV Tryd.prog I N (.fn 19) #[.pointer (some ⟨b, 0, none⟩)] k) := by
  obtain ⟨N, rfl⟩ : ∃ n, N = n + 1 := ⟨N - 1, by omega⟩
  rw [evalV_call (P := Tryd.prog) (intr := I) (f := 19) (m := 9) (rs := #[.tmp 2]) h1 Tryd.func19 rfl rfl rfl]
  simp (maxDischargeDepth := 16) only [z04, z05, z08, z09, z0a, z0c, z0d, z0e, z0o, z0p, z0q, z0s, z0t, z0v, z0w, z0z, z10, z11, z13, z16, z1c, z1e, z1v, z21, z2w, z2x, z3b, z3c, z3f, z4e, z4f, z4g, z4h, z4i, z4m, z4n, z4o, z4p, z4q, z4r, z4s, z4t, z4u, z4w, z4x, z4y, z4z, z50, z51, z53, z7i, z7m, Nat.reduceSub, Hp.cell, tFieldAx69x5, tPartx3, tPtrx25, g1]
  exact Al.done (by repeat (first | assumption | exact Keeps.refl _ | refine Keeps.push ?_ _ | refine Keeps.set ?_ (by first | omega | (simp only [Hp.size_push, Hp.size_setB]; omega)) _)) rfl ⟨rfl, rfl⟩
end
end
end Go.Abs.B1d
