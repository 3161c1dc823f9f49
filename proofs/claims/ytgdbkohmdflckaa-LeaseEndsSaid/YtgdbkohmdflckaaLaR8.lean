/- What is proved: the law LeaseEnds (a lease that is not granted anew ends by itself, a promise too) gives true for every input, and its arguments read behind the call as they read before. No condition beside the row's own. -/
import Derived.Test.YtgdbkohmdflckaaLa8
import Derived.Test.YtgdbkohmdflckaaRows
namespace Go.Abs.A1
open Go.Proofs
set_option maxRecDepth 100000
set_option linter.all false
theorem lifted8 (os : Os) (started : os.Started) (H : Type) (enc : TypeId × Value → H) :
    ReturnsInHanded {} Try.checked os 8 .any (Ytgdbkohmdflckaa.Rows.leaseEndsSpec.pre6 enc Try.prog Try.f8 Ytgdbkohmdflckaa.Rows.leaseEndsRow.domain false) (Ytgdbkohmdflckaa.Rows.leaseEndsSpec.post enc Try.prog Try.f8 false true false false) :=
  law_lifted (C := Try.checked) (d := 4) own started base ok3 laid (by kernel_rfl) Try.func8 rfl
    (fun H ds hd => by
      have hd : ds.length = 2 := hd
      match ds, hd with
      | [_, _], _ => exact ⟨rfl, rfl, rfl⟩) (by kernel_rfl)
    (ChangeSpec.witness6 (enc := enc) (C := Try.checked) false ⟨#[], #[.agg #[.int .u64 0, .int .u64 0, .int .u64 0], .int .u64 0], []⟩ 8 (by kernel_rfl) (by kernel_rfl) (by kernel_rfl) (by kernel_rfl))
    (fun h xs hro hk hl => by
      replace hl : LiesAll Try.prog h 4 [33, 31] xs := hl
      obtain ⟨v, vs, rfl, h1, h2⟩ := liesAll_cons hl
      obtain ⟨v2, vs2, rfl, h3, h4⟩ := liesAll_cons h2
      obtain rfl := liesAll_nil h4
      obtain ⟨a, b, c, rfl, h0, hb0, hc0⟩ := lies33 h1
      obtain ⟨s, rfl, hs⟩ := liesV_int Try.underlying31 h3
      exact ⟨_, run8 a b c s h0 hb0 hc0 (u64_bounds hs).1 h (by omega)⟩)
theorem over8 : Ytgdbkohmdflckaa.Rows.leaseEndsRow.holds Ytgdbkohmdflckaa.Try.pinned (OpenSpec.ofChange Ytgdbkohmdflckaa.Rows.leaseEndsSpec) :=
  OpenClaim.holds_of_wide 8 Try.f8 rfl rfl rfl rfl rfl rfl rfl ⟨rfl, rfl, rfl, rfl, rfl⟩ rfl rfl rfl rfl rfl (by kernel_rfl) Try.func8 (by kernel_rfl)
    (of_decide_eq_true (by kernel_rfl)) (by unfold Func.isWrapper; first | (rw [if_pos (by decide +kernel)]; kernel_rfl) | (rw [if_neg (by decide +kernel)]; exact ⟨rfl, rfl⟩))
    (fun os started H enc _ => lifted8 os started H enc)
end Go.Abs.A1
namespace Go.Proofs.Ytgdbkohmdflckaa
theorem leaseEnds_holds : Rows.LeaseEndsSaid := Go.Abs.A1.over8
end Go.Proofs.Ytgdbkohmdflckaa
