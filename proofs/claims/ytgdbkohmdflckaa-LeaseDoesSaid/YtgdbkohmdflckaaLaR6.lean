/- What is proved: the law LeaseDoes (a lease goes on, is granted and grants as the document says) gives true for every input, and its arguments read behind the call as they read before. No condition beside the row's own. -/
import Derived.Test.YtgdbkohmdflckaaLa7
import Derived.Test.YtgdbkohmdflckaaRows
namespace Go.Abs.A1
open Go.Proofs
set_option maxRecDepth 100000
set_option linter.all false
theorem lifted6 (os : Os) (started : os.Started) (H : Type) (enc : TypeId × Value → H) :
    ReturnsInHanded {} Try.checked os 6 .any (Ytgdbkohmdflckaa.Rows.leaseDoesSpec.pre6 enc Try.prog Try.f6 Ytgdbkohmdflckaa.Rows.leaseDoesRow.domain false) (Ytgdbkohmdflckaa.Rows.leaseDoesSpec.post enc Try.prog Try.f6 false true false false) :=
  law_lifted (C := Try.checked) (d := 4) own started base ok3 laid (by kernel_rfl) Try.func6 rfl
    (fun H ds hd => by
      have hd : ds.length = 2 := hd
      match ds, hd with
      | [_, _], _ => exact ⟨rfl, rfl, rfl⟩) (by kernel_rfl)
    (ChangeSpec.witness6 (enc := enc) (C := Try.checked) false ⟨#[], #[.agg #[.int .u64 0, .int .u64 0, .int .u64 0], .int .u64 0], []⟩ 8 (by kernel_rfl) (by kernel_rfl) (by kernel_rfl) (by kernel_rfl))
    (fun h xs hro hk hl => by
      replace hl : LiesAll Try.prog h 4 [33, 31] xs := hl
      obtain ⟨v, vs, rfl, h1, h2⟩ := liesAll_cons hl
      obtain ⟨v2, vs2, rfl, h3, h4⟩ := liesAll_cons h2
      obtain rfl := liesAll_nil h4
      obtain ⟨a, b, c, rfl, h0, _⟩ := lies33 h1
      obtain ⟨s, rfl, hs⟩ := liesV_int Try.underlying31 h3
      exact ⟨_, run6 a b c s h0 (u64_bounds hs).1 h (by omega)⟩)
theorem over6 : Ytgdbkohmdflckaa.Rows.leaseDoesRow.holds Ytgdbkohmdflckaa.Try.pinned (OpenSpec.ofChange Ytgdbkohmdflckaa.Rows.leaseDoesSpec) :=
  OpenClaim.holds_of_wide 6 Try.f6 rfl rfl rfl rfl rfl rfl rfl ⟨rfl, rfl, rfl, rfl, rfl⟩ rfl rfl rfl rfl rfl (by kernel_rfl) Try.func6 (by kernel_rfl)
    (of_decide_eq_true (by kernel_rfl)) (by unfold Func.isWrapper; first | (rw [if_pos (by decide +kernel)]; kernel_rfl) | (rw [if_neg (by decide +kernel)]; exact ⟨rfl, rfl⟩))
    (fun os started H enc _ => lifted6 os started H enc)
end Go.Abs.A1
namespace Go.Proofs.Ytgdbkohmdflckaa
theorem leaseDoes_holds : Rows.LeaseDoesSaid := Go.Abs.A1.over6
end Go.Proofs.Ytgdbkohmdflckaa
