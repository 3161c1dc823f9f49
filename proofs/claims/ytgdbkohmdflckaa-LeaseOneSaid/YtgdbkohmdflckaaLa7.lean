/- What is handed in to the laws of leases. -/
import Derived.Test.YtgdbkohmdflckaaLa6
import Derived.Test.YtgdbkohmdflckaaAbsD
import Derived.Test.YtgdbkohmdflckaaRows
namespace Go.Abs.A1
open Go.Proofs
set_option maxRecDepth 100000
set_option linter.all false
theorem own : ownKnob Try.prog.godebug = none := by kernel_rfl
theorem laid : laidOutB Try.prog = true := by kernel_rfl
theorem lies33 {h : Hp} {v : Value} (hl : LiesV Try.prog h 4 33 v) : ∃ a b c, v = vL a b c ∧ 0 ≤ a ∧ 0 ≤ b ∧ 0 ≤ c := by
  obtain ⟨cs, rfl, hL⟩ := liesV_agg (by kernel_rfl) hl
  obtain ⟨parts, rfl, hlen, hp⟩ := lies_struct Try.underlying33 hL
  match parts, hlen with
  | [p0, p1, p2], _ =>
    obtain ⟨a, rfl, ha⟩ := lies_int Try.underlying31 (hp 0 _ p0 rfl rfl).2
    obtain ⟨b, rfl, hb⟩ := lies_int Try.underlying31 (hp 1 _ p1 rfl rfl).2
    obtain ⟨c, rfl, hc⟩ := lies_int Try.underlying31 (hp 2 _ p2 rfl rfl).2
    exact ⟨a, b, c, rfl, (u64_bounds ha).1, (u64_bounds hb).1, (u64_bounds hc).1⟩
end Go.Abs.A1
