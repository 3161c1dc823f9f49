/- What is proved: the law DiskSizes (which disks are made, and what nothing answers; for every number, and deed) gives true for every input, and its arguments read behind the call as they read before. No condition beside the row's own. -/
import Derived.Test.YtnlhfcipapbfmaaDk31
import Derived.Test.YtnlhfcipapbfmaaRows
namespace Go.Abs.B1
open Go.Proofs
set_option maxRecDepth 100000
set_option linter.all false
theorem lifted11 (os : Os) (started : os.Started) (H : Type) (enc : TypeId × Value → H) :
    ReturnsInHanded {} Try.checked os 11 .any (Ytnlhfcipapbfmaa.Rows.diskSizesSpec.pre6 enc Try.prog Try.f11 Ytnlhfcipapbfmaa.Rows.diskSizesRow.domain false) (Ytnlhfcipapbfmaa.Rows.diskSizesSpec.post enc Try.prog Try.f11 false true false false) :=
  law_lifted (C := Try.checked) (d := 11) own started base ok0 laid (by kernel_rfl) Try.func11 rfl
    (fun H ds hd => by
      have hd : ds.length = 2 := hd
      match ds, hd with
      | [_, _], _ => exact ⟨rfl, rfl, rfl⟩) (by kernel_rfl)
    (ChangeSpec.witness6 (enc := enc) (C := Try.checked) false ⟨#[], #[.int .i64 0, .agg #[.int .i64 0, .int .i64 0, .int .i64 0, .int .u8 0, .slice none 0 0]], []⟩ 8 (by kernel_rfl) (by kernel_rfl) (by kernel_rfl) (by kernel_rfl))
    (fun h xs hro hk hl => by
      replace hl : LiesAll Try.prog h 11 [3, 94] xs := hl
      obtain ⟨v, vs, rfl, h1, h2⟩ := liesAll_cons hl
      obtain ⟨v2, vs2, rfl, h3, h4⟩ := liesAll_cons h2
      obtain rfl := liesAll_nil h4
      obtain ⟨n, rfl, hn1, hn2⟩ := liesV_int (k := .i64) (by kernel_rfl) h1
      obtain ⟨cs, rfl, h5⟩ := liesV_agg (by kernel_rfl) h3
      obtain ⟨y, hy⟩ := lies94_11 h cs h5
      obtain ⟨N, w, k, e, _, _, rfl⟩ := run11 n ⟨hn1, hn2⟩ hy (by omega)
      exact ⟨N, k, e⟩
)
theorem over11 : Ytnlhfcipapbfmaa.Rows.diskSizesRow.holds Ytnlhfcipapbfmaa.Try.pinned (OpenSpec.ofChange Ytnlhfcipapbfmaa.Rows.diskSizesSpec) :=
  OpenClaim.holds_of_wide 11 Try.f11 rfl rfl rfl rfl rfl rfl rfl ⟨rfl, rfl, rfl, rfl, rfl⟩ rfl rfl rfl rfl rfl (by kernel_rfl) Try.func11 (by kernel_rfl)
    (of_decide_eq_true (by kernel_rfl)) (by unfold Func.isWrapper; first | (rw [if_pos (by decide +kernel)]; kernel_rfl) | (rw [if_neg (by decide +kernel)]; exact ⟨rfl, rfl⟩))
    (fun os started H enc _ => lifted11 os started H enc)
end Go.Abs.B1
namespace Go.Proofs.Ytnlhfcipapbfmaa
theorem diskSizes_holds : Rows.DiskSizesSaid := Go.Abs.B1.over11
end Go.Proofs.Ytnlhfcipapbfmaa
