/- What is handed in to the law LeaseOne. -/
import Derived.Test.YtgdbkohmdflckaaLa11
namespace Go.Abs.A1
open Go.Proofs
set_option maxRecDepth 100000
set_option linter.all false
theorem lies40 {h : Hp} {v : Value} (hl : LiesV Try.prog h 4 40 v) : ∃ (o : Option Addr) (len cap : Nat) (L : List (Int × Int)), v = .slice o len cap ∧ len ≤ L.length ∧ len ≤ 1000000000000000 ∧
    (0 < len → ∃ bl, o = some ⟨bl, 0, none⟩ ∧ bl < h.size ∧ h.get bl = some (.cells (L.flatMap aC).toArray false)) ∧ (∀ x ∈ L, -9223372036854775808 ≤ x.1 ∧ x.1 < 9223372036854775808 ∧ -9223372036854775808 ≤ x.2 ∧ x.2 < 9223372036854775808) := by
  have hL := liesV_one (by kernel_rfl) hl
  rcases lies_slice Try.underlying40 hL with e | ⟨b, len, cap, sp, parts, e, hb, hlc, hcb, hg, hpl, hp⟩
  · simp only [List.cons.injEq, and_true] at e
    exact ⟨none, 0, 0, [], e, by simp, by omega, fun h => by omega, by simp⟩
  · simp only [List.cons.injEq, and_true] at e
    obtain ⟨L, rfl, hr⟩ := parts_list (f := aC) (R := fun x => -9223372036854775808 ≤ x.1 ∧ x.1 < 9223372036854775808 ∧ -9223372036854775808 ≤ x.2 ∧ x.2 < 9223372036854775808) parts fun p hpm => by
      obtain ⟨_, hl⟩ := hp p hpm
      obtain ⟨ps, rfl, hlen, hps⟩ := lies_struct Try.underlying44 hl
      match ps, hlen with
      | [p0, p1], _ =>
        obtain ⟨x, rfl, hx⟩ := lies_int Try.underlying3 (hps 0 _ p0 rfl rfl).2
        obtain ⟨y, rfl, hy⟩ := lies_int Try.underlying3 (hps 1 _ p1 rfl rfl).2
        have hx := i64_bounds hx
        have hy := i64_bounds hy
        exact ⟨(x, y), rfl, hx.1, hx.2, hy.1, hy.2⟩
    have hby : Try.prog.bytesOf 44 = 16 := by kernel_rfl
    rw [hby] at hcb
    have : reachBytes = 140737488351232 := rfl
    rw [List.length_map] at hpl
    refine ⟨_, len, cap, L, e, by omega, by omega, fun h0 => ?_, hr⟩
    obtain ⟨rfl, hg2⟩ := hg (by omega)
    exact ⟨b, rfl, hb, by rw [hg2, List.flatMap_def]⟩
end Go.Abs.A1
