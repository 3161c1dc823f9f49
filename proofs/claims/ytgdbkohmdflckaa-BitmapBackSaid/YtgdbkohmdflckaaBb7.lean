/- The arguments of the laws of nodes: a node, and words. -/
import Derived.Test.YtgdbkohmdflckaaBb6
import Derived.Test.YtgdbkohmdflckaaBb5
namespace Go.Abs.A1
open Go.Proofs
set_option maxRecDepth 10000
set_option linter.all false
theorem lies49 {h : Hp} {v : Value} (hl : LiesV Try.prog h 4 49 v) : ∃ i o r c, v = vN i o r c ∧ (0 ≤ i ∧ i < 4294967296) ∧ (0 ≤ o ∧ o < 4294967296) ∧ (0 ≤ r ∧ r < 4294967296) ∧ (0 ≤ c ∧ c < 4294967296) := by
  obtain ⟨cs, rfl, hL⟩ := liesV_agg (by kernel_rfl) hl
  obtain ⟨parts, rfl, hlen, hp⟩ := lies_struct Try.underlying49 hL
  match parts, hlen with
  | [p0, p1, p2, p3], _ =>
    obtain ⟨a, rfl, ha⟩ := lies_int Try.underlying22 (hp 0 _ p0 rfl rfl).2
    obtain ⟨b, rfl, hb⟩ := lies_int Try.underlying22 (hp 1 _ p1 rfl rfl).2
    obtain ⟨c, rfl, hc⟩ := lies_int Try.underlying22 (hp 2 _ p2 rfl rfl).2
    obtain ⟨d, rfl, hd⟩ := lies_int Try.underlying22 (hp 3 _ p3 rfl rfl).2
    exact ⟨a, b, c, d, rfl, u32_bounds ha, u32_bounds hb, u32_bounds hc, u32_bounds hd⟩
theorem flat_one : ∀ zs : List Int, (zs.map fun z => [u32 z]).flatten = zs.map u32
  | [] => rfl
  | z :: zs => by simp [flat_one zs]
theorem lies50 {h : Hp} {v : Value} (hl : LiesV Try.prog h 4 50 v) : ∃ (len : Nat) (zs : List Int), Words h v len zs := by
  have hL := liesV_one (by kernel_rfl) hl
  rcases lies_slice Try.underlying50 hL with e | ⟨b, len, cap, sp, parts, e, hb, hlc, hcb, hg, hpl, hp⟩
  · simp only [List.cons.injEq, and_true] at e
    exact ⟨0, [], none, 0, e, by simp, by simp, fun h => by omega⟩
  · simp only [List.cons.injEq, and_true] at e
    obtain ⟨L, rfl, hr⟩ := parts_list (f := fun z => [u32 z]) (R := fun z => 0 ≤ z ∧ z < 4294967296) parts fun p hpm => by
      obtain ⟨_, hl⟩ := hp p hpm
      obtain ⟨x, rfl, hx⟩ := lies_int Try.underlying22 hl
      exact ⟨x, rfl, u32_bounds hx⟩
    have hby : Try.prog.bytesOf 22 = 4 := by kernel_rfl
    rw [hby] at hcb
    have : reachBytes = 140737488351232 := rfl
    rw [List.length_map] at hpl
    refine ⟨len, L, _, cap, e, by omega, hr, fun h0 => ?_⟩
    obtain ⟨rfl, hg2⟩ := hg (by omega)
    exact ⟨b, _, rfl, hb, by rw [hg2, flat_one]⟩
end Go.Abs.A1
