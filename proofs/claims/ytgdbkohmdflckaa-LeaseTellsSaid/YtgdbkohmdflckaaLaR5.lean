/- What is proved: the law LeaseTells (which leases may be, hold, and are free) gives true for every input, and its arguments read behind the call as they read before. No condition beside the row's own. -/
import Derived.Test.YtgdbkohmdflckaaLa7
import Derived.Test.YtgdbkohmdflckaaRows
namespace Go.Abs.A1
open Go.Proofs
set_option maxRecDepth 100000
set_option linter.all false
theorem lifted5 (os : Os) (started : os.Started) (H : Type) (enc : TypeId × Value → H) :
    ReturnsInHanded {} Try.checked os 5 .any (Ytgdbkohmdflckaa.Rows.leaseTellsSpec.pre6 enc Try.prog Try.f5 Ytgdbkohmdflckaa.Rows.leaseTellsRow.domain false) (Ytgdbkohmdflckaa.Rows.leaseTellsSpec.post enc Try.prog Try.f5 false true false false) :=
  law_lifted (C := Try.checked) (d := 4) own started base ok3 laid (by kernel_rfl) Try.func5 rfl
    (fun H ds hd => by
      have hd : ds.length = 1 := hd
      match ds, hd with
      | [_], _ => exact ⟨rfl, rfl, rfl⟩) (by kernel_rfl)
    (ChangeSpec.witness6 (enc := enc) (C := Try.checked) false ⟨#[], #[.agg #[.int .u64 0, .int .u64 0, .int .u64 0]], []⟩ 8 (by kernel_rfl) (by kernel_rfl) (by kernel_rfl) (by kernel_rfl))
    (fun h xs hro hk hl => by
      replace hl : LiesAll Try.prog h 4 [33] xs := hl
      obtain ⟨v, vs, rfl, h1, h2⟩ := liesAll_cons hl
      obtain rfl := liesAll_nil h2
      obtain ⟨a, b, c, rfl, _⟩ := lies33 h1
      exact ⟨_, run5 a b c h (by omega)⟩)
theorem over5 : Ytgdbkohmdflckaa.Rows.leaseTellsRow.holds Ytgdbkohmdflckaa.Try.pinned (OpenSpec.ofChange Ytgdbkohmdflckaa.Rows.leaseTellsSpec) :=
  OpenClaim.holds_of_wide 5 Try.f5 rfl rfl rfl rfl rfl rfl rfl ⟨rfl, rfl, rfl, rfl, rfl⟩ rfl rfl rfl rfl rfl (by kernel_rfl) Try.func5 (by kernel_rfl)
    (of_decide_eq_true (by kernel_rfl)) (by unfold Func.isWrapper; first | (rw [if_pos (by decide +kernel)]; kernel_rfl) | (rw [if_neg (by decide +kernel)]; exact ⟨rfl, rfl⟩))
    (fun os started H enc _ => lifted5 os started H enc)
end Go.Abs.A1
namespace Go.Proofs.Ytgdbkohmdflckaa
theorem leaseTells_holds : Rows.LeaseTellsSaid := Go.Abs.A1.over5
end Go.Proofs.Ytgdbkohmdflckaa
