/- What is proved: the law DiskForks (a copy goes on by itself; for every two rows of deeds, and size) gives true for every input, and its arguments read behind the call as they read before. No condition beside the row's own. -/
import Derived.Test.YtnlhfcipapbfmaaDk34
import Derived.Test.YtnlhfcipapbfmaaRows
namespace Go.Abs.B1
open Go.Proofs
set_option maxRecDepth 100000
set_option linter.all false
theorem lifted10 (os : Os) (started : os.Started) (H : Type) (enc : TypeId × Value → H) :
    ReturnsInHanded {} Try.checked os 10 .any (Ytnlhfcipapbfmaa.Rows.diskForksSpec.pre6 enc Try.prog Try.f10 Ytnlhfcipapbfmaa.Rows.diskForksRow.domain false) (Ytnlhfcipapbfmaa.Rows.diskForksSpec.post enc Try.prog Try.f10 false true false false) :=
  law_lifted (C := Try.checked) (d := 12) own started base ok0 laid (by kernel_rfl) Try.func10 rfl
    (fun H ds hd => by
      have hd : ds.length = 3 := hd
      match ds, hd with
      | [_, _, _], _ => exact ⟨rfl, rfl, rfl⟩) (by kernel_rfl)
    (ChangeSpec.witness6 (enc := enc) (C := Try.checked) false ⟨#[], #[.slice none 0 0, .slice none 0 0, .int .i64 0], []⟩ 8 (by kernel_rfl) (by kernel_rfl) (by kernel_rfl) (by kernel_rfl))
    (fun h xs hro hk hl => by
      replace hl : LiesAll Try.prog h 12 [88, 88, 3] xs := hl
      obtain ⟨v, vs, rfl, h1, h2⟩ := liesAll_cons hl
      obtain ⟨v2, vs2, rfl, h3, h4⟩ := liesAll_cons h2
      obtain ⟨v3, vs3, rfl, h5, h6⟩ := liesAll_cons h4
      obtain rfl := liesAll_nil h6
      obtain ⟨x, hx⟩ := lies88_12 h [v] (liesV_one (by kernel_rfl) h1)
      obtain ⟨y, hy⟩ := lies88_12 h [v2] (liesV_one (by kernel_rfl) h3)
      obtain ⟨n, rfl, -, -⟩ := liesV_int (k := .i64) (by kernel_rfl) h5
      obtain ⟨N, w, k, e, _, _, rfl⟩ := run10 n hx hy (by omega)
      exact ⟨N, k, e⟩
)
theorem over10 : Ytnlhfcipapbfmaa.Rows.diskForksRow.holds Ytnlhfcipapbfmaa.Try.pinned (OpenSpec.ofChange Ytnlhfcipapbfmaa.Rows.diskForksSpec) :=
  OpenClaim.holds_of_wide 10 Try.f10 rfl rfl rfl rfl rfl rfl rfl ⟨rfl, rfl, rfl, rfl, rfl⟩ rfl rfl rfl rfl rfl (by kernel_rfl) Try.func10 (by kernel_rfl)
    (of_decide_eq_true (by kernel_rfl)) (by unfold Func.isWrapper; first | (rw [if_pos (by decide +kernel)]; kernel_rfl) | (rw [if_neg (by decide +kernel)]; exact ⟨rfl, rfl⟩))
    (fun os started H enc _ => lifted10 os started H enc)
end Go.Abs.B1
namespace Go.Proofs.Ytnlhfcipapbfmaa
theorem diskForks_holds : Rows.DiskForksSaid := Go.Abs.B1.over10
end Go.Proofs.Ytnlhfcipapbfmaa
