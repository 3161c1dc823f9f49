/- What is proved: the law ShipAccepts (what an offer makes of a view, and whether a base is to be taken; for all views and every row of messages) gives true for every input, and its arguments read behind the call as they read before. No condition beside the row's own. -/
import Derived.Test.YtnlhfcipapbfmaaSh25
import Derived.Test.YtnlhfcipapbfmaaRows
namespace Go.Abs.B1
open Go.Proofs
set_option maxRecDepth 100000
set_option linter.all false
theorem lifted5 (os : Os) (started : os.Started) (H : Type) (enc : TypeId × Value → H) :
    ReturnsInHanded {} Try.checked os 5 .any (Ytnlhfcipapbfmaa.Rows.shipAcceptsSpec.pre6 enc Try.prog Try.f5 Ytnlhfcipapbfmaa.Rows.shipAcceptsRow.domain false) (Ytnlhfcipapbfmaa.Rows.shipAcceptsSpec.post enc Try.prog Try.f5 false true false false) :=
  law_lifted (C := Try.checked) (d := 12) own started base okS25 laid (by kernel_rfl) Try.func5 rfl
    (fun H ds hd => by
      have hd : ds.length = 2 := hd
      match ds, hd with
      | [_, _], _ => exact ⟨rfl, rfl, rfl⟩) (by kernel_rfl)
    (ChangeSpec.witness6 (enc := enc) (C := Try.checked) false ⟨#[], #[.agg #[.int .u64 0, .int .u64 0, .int .u64 0, .slice none 0 0, .int .u32 0, .int .u64 0, .int .u32 0, .int .u64 0, .int .u32 0, .int .u64 0, .slice none 0 0], .slice none 0 0], []⟩ 8 (by kernel_rfl) (by kernel_rfl) (by kernel_rfl) (by kernel_rfl))
    (fun h xs hro hk hl => by
      replace hl : LiesAll Try.prog h 12 [36, 70] xs := hl
      obtain ⟨v, vs, rfl, h1, h2⟩ := liesAll_cons hl
      obtain ⟨v2, vs2, rfl, h3, h4⟩ := liesAll_cons h2
      obtain rfl := liesAll_nil h4
      obtain ⟨cs, rfl, h5⟩ := liesV_agg (by kernel_rfl) h1
      obtain ⟨x, hx⟩ := lies36_12 h cs h5
      obtain ⟨y, hy⟩ := lies70_12 h [v2] (liesV_one (by kernel_rfl) h3)
      obtain ⟨N, w, k, e, _, _, rfl⟩ := run5 h cs v2 x y hx hy (by omega)
      exact ⟨N, k, e⟩
)
theorem over5 : Ytnlhfcipapbfmaa.Rows.shipAcceptsRow.holds Ytnlhfcipapbfmaa.Try.pinned (OpenSpec.ofChange Ytnlhfcipapbfmaa.Rows.shipAcceptsSpec) :=
  OpenClaim.holds_of_wide 5 Try.f5 rfl rfl rfl rfl rfl rfl rfl ⟨rfl, rfl, rfl, rfl, rfl⟩ rfl rfl rfl rfl rfl (by kernel_rfl) Try.func5 (by kernel_rfl)
    (of_decide_eq_true (by kernel_rfl)) (by unfold Func.isWrapper; first | (rw [if_pos (by decide +kernel)]; kernel_rfl) | (rw [if_neg (by decide +kernel)]; exact ⟨rfl, rfl⟩))
    (fun os started H enc _ => lifted5 os started H enc)
end Go.Abs.B1
namespace Go.Proofs.Ytnlhfcipapbfmaa
theorem shipAccepts_holds : Rows.ShipAcceptsSaid := Go.Abs.B1.over5
end Go.Proofs.Ytnlhfcipapbfmaa
