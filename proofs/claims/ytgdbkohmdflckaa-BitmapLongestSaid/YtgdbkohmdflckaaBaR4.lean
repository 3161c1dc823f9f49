/- What is proved: the law BitmapLongest (a match is set, and none is longer) gives true for every input, and its arguments read behind the call as they read before. No condition beside the row's own. -/
import Derived.Test.YtgdbkohmdflckaaBa5
import Derived.Test.YtgdbkohmdflckaaRows
namespace Go.Abs.A1
open Go.Proofs
set_option maxRecDepth 100000
set_option linter.all false
theorem lifted4 (os : Os) (started : os.Started) (H : Type) (enc : TypeId × Value → H) :
    ReturnsInHanded {} Try.checked os 4 .any (Ytgdbkohmdflckaa.Rows.bitmapLongestSpec.pre6 enc Try.prog Try.f4 Ytgdbkohmdflckaa.Rows.bitmapLongestRow.domain false) (Ytgdbkohmdflckaa.Rows.bitmapLongestSpec.post enc Try.prog Try.f4 false true false false) :=
  law_lifted (C := Try.checked) (d := 4) own started base okB2 laid (by kernel_rfl) Try.func4 rfl
    (fun H ds hd => by
      have hd : ds.length = 3 := hd
      match ds, hd with
      | [_, _, _], _ => exact ⟨rfl, rfl, rfl⟩) (by kernel_rfl)
    (ChangeSpec.witness6 (enc := enc) (C := Try.checked) false ⟨#[], #[.int .u32 0, .int .i64 0, .int .i64 0], []⟩ 8 (by kernel_rfl) (by kernel_rfl) (by kernel_rfl) (by kernel_rfl))
    (fun h xs hro hk hl => by
      replace hl : LiesAll Try.prog h 4 [22, 3, 3] xs := hl
      obtain ⟨v, vs, rfl, h1, h2⟩ := liesAll_cons hl
      obtain ⟨v2, vs2, rfl, h3, h4⟩ := liesAll_cons h2
      obtain ⟨v3, vs3, rfl, h5, h6⟩ := liesAll_cons h4
      obtain rfl := liesAll_nil h6
      obtain ⟨a, rfl, ha⟩ := liesV_int Try.underlying22 h1
      obtain ⟨b, rfl, hb⟩ := liesV_int Try.underlying3 h3
      obtain ⟨c, rfl, hc⟩ := liesV_int Try.underlying3 h5
      exact ⟨_, run4 a b c (u32_bounds ha) h (by omega)⟩)
theorem over4 : Ytgdbkohmdflckaa.Rows.bitmapLongestRow.holds Ytgdbkohmdflckaa.Try.pinned (OpenSpec.ofChange Ytgdbkohmdflckaa.Rows.bitmapLongestSpec) :=
  OpenClaim.holds_of_wide 4 Try.f4 rfl rfl rfl rfl rfl rfl rfl ⟨rfl, rfl, rfl, rfl, rfl⟩ rfl rfl rfl rfl rfl (by kernel_rfl) Try.func4 (by kernel_rfl)
    (of_decide_eq_true (by kernel_rfl)) (by unfold Func.isWrapper; first | (rw [if_pos (by decide +kernel)]; kernel_rfl) | (rw [if_neg (by decide +kernel)]; exact ⟨rfl, rfl⟩))
    (fun os started H enc _ => lifted4 os started H enc)
end Go.Abs.A1
namespace Go.Proofs.Ytgdbkohmdflckaa
theorem bitmapLongest_holds : Rows.BitmapLongestSaid := Go.Abs.A1.over4
end Go.Proofs.Ytgdbkohmdflckaa
