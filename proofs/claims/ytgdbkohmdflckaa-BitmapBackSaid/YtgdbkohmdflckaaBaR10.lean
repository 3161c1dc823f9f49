/- What is proved: the law BitmapBack (there and back) gives true for every input, and its arguments read behind the call as they read before. No condition beside the row's own. -/
import Derived.Test.YtgdbkohmdflckaaBb7
import Derived.Test.YtgdbkohmdflckaaRows
namespace Go.Abs.A1
open Go.Proofs
set_option maxRecDepth 100000
set_option linter.all false
theorem lifted10 (os : Os) (started : os.Started) (H : Type) (enc : TypeId × Value → H) :
    ReturnsInHanded {} Try.checked os 10 .any (Ytgdbkohmdflckaa.Rows.bitmapBackSpec.pre6 enc Try.prog Try.f10 Ytgdbkohmdflckaa.Rows.bitmapBackRow.domain false) (Ytgdbkohmdflckaa.Rows.bitmapBackSpec.post enc Try.prog Try.f10 false true false false) :=
  law_lifted (C := Try.checked) (d := 4) own started base okN2 laid (by kernel_rfl) Try.func10 rfl
    (fun H ds hd => by
      have hd : ds.length = 2 := hd
      match ds, hd with
      | [_, _], _ => exact ⟨rfl, rfl, rfl⟩) (by kernel_rfl)
    (ChangeSpec.witness6 (enc := enc) (C := Try.checked) false ⟨#[], #[.agg #[.int .u32 0, .int .u32 0, .int .u32 0, .int .u32 0], .slice none 0 0], []⟩ 8 (by kernel_rfl) (by kernel_rfl) (by kernel_rfl) (by kernel_rfl))
    (fun h xs hro hk hl => by
      replace hl : LiesAll Try.prog h 4 [49, 50] xs := hl
      obtain ⟨v, vs, rfl, h1, h2⟩ := liesAll_cons hl
      obtain ⟨v2, vs2, rfl, h3, h4⟩ := liesAll_cons h2
      obtain rfl := liesAll_nil h4
      obtain ⟨i, o, r, c, rfl, hi, ho, hr, hc⟩ := lies49 h1
      obtain ⟨len, zs, w⟩ := lies50 h3
      exact ⟨_, run10 i o r c hi.1 ho.1 hr hc v2 len zs h (by omega) w⟩)
theorem over10 : Ytgdbkohmdflckaa.Rows.bitmapBackRow.holds Ytgdbkohmdflckaa.Try.pinned (OpenSpec.ofChange Ytgdbkohmdflckaa.Rows.bitmapBackSpec) :=
  OpenClaim.holds_of_wide 10 Try.f10 rfl rfl rfl rfl rfl rfl rfl ⟨rfl, rfl, rfl, rfl, rfl⟩ rfl rfl rfl rfl rfl (by kernel_rfl) Try.func10 (by kernel_rfl)
    (of_decide_eq_true (by kernel_rfl)) (by unfold Func.isWrapper; first | (rw [if_pos (by decide +kernel)]; kernel_rfl) | (rw [if_neg (by decide +kernel)]; exact ⟨rfl, rfl⟩))
    (fun os started H enc _ => lifted10 os started H enc)
end Go.Abs.A1
namespace Go.Proofs.Ytgdbkohmdflckaa
theorem bitmapBack_holds : Rows.BitmapBackSaid := Go.Abs.A1.over10
end Go.Proofs.Ytgdbkohmdflckaa
