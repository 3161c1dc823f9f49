/- What a deed does by the document. -/
import Derived.Test.YtnlhfcipapbfmaaDoorDe24
namespace Go.Abs.B1d
open Go.Proofs
set_option maxRecDepth 10000
set_option maxHeartbeats 4000000
set_option linter.all false
theorem vin_tup {p : Nat → Prop} {ds : Array Value} (h : ∀ c ∈ ds, vin p c) : vin p (.tuple ds) := by
  unfold vin at h ⊢
  rw [vb_tuple, Array.all_eq_true_iff_forall_mem]
  exact h
theorem kindN_range (x : T42) : 0 ≤ kindN x ∧ kindN x < 10 := by
  have h : 0 ≤ IntKind.u64.wrap x.1 := by
    show 0 ≤ x.1 % _
    exact Int.emod_nonneg _ (by decide)
  unfold kindN
  exact ⟨Int.tmod_nonneg _ h, Int.tmod_lt_of_pos _ (by decide)⟩
end Go.Abs.B1d
