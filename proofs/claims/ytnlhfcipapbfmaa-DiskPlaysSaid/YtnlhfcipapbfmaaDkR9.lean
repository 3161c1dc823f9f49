/- What is proved: the law DiskPlays (what a disk answers, deed by deed, and what it shows at the end; for every size and row of deeds) gives true for every input, and its arguments read behind the call as they read before. No condition beside the row's own. -/
import Derived.Test.YtnlhfcipapbfmaaDk29
import Derived.Test.YtnlhfcipapbfmaaRows
namespace Go.Abs.B1
open Go.Proofs
set_option maxRecDepth 100000
set_option linter.all false
theorem lifted9 (os : Os) (started : os.Started) (H : Type) (enc : TypeId × Value → H) :
    ReturnsInHanded {} Try.checked os 9 .any (Ytnlhfcipapbfmaa.Rows.diskPlaysSpec.pre6 enc Try.prog Try.f9 Ytnlhfcipapbfmaa.Rows.diskPlaysRow.domain false) (Ytnlhfcipapbfmaa.Rows.diskPlaysSpec.post enc Try.prog Try.f9 false true false false) :=
  law_lifted (C := Try.checked) (d := 12) own started base ok0 laid (by kernel_rfl) Try.func9 rfl
    (fun H ds hd => by
      have hd : ds.length = 2 := hd
      match ds, hd with
      | [_, _], _ => exact ⟨rfl, rfl, rfl⟩) (by kernel_rfl)
    (ChangeSpec.witness6 (enc := enc) (C := Try.checked) false ⟨#[], #[.int .i64 0, .slice none 0 0], []⟩ 8 (by kernel_rfl) (by kernel_rfl) (by kernel_rfl) (by kernel_rfl))
    (fun h xs hro hk hl => by
      replace hl : LiesAll Try.prog h 12 [3, 88] xs := hl
      obtain ⟨v, vs, rfl, h1, h2⟩ := liesAll_cons hl
      obtain ⟨v2, vs2, rfl, h3, h4⟩ := liesAll_cons h2
      obtain rfl := liesAll_nil h4
      obtain ⟨n, rfl, -, -⟩ := liesV_int (k := .i64) (by kernel_rfl) h1
      obtain ⟨y, hy⟩ := lies88_12 h [v2] (liesV_one (by kernel_rfl) h3)
      obtain ⟨N, w, k, e, _, _, rfl⟩ := run9 n hy (by omega)
      exact ⟨N, k, e⟩
)
theorem over9 : Ytnlhfcipapbfmaa.Rows.diskPlaysRow.holds Ytnlhfcipapbfmaa.Try.pinned (OpenSpec.ofChange Ytnlhfcipapbfmaa.Rows.diskPlaysSpec) :=
  OpenClaim.holds_of_wide 9 Try.f9 rfl rfl rfl rfl rfl rfl rfl ⟨rfl, rfl, rfl, rfl, rfl⟩ rfl rfl rfl rfl rfl (by kernel_rfl) Try.func9 (by kernel_rfl)
    (of_decide_eq_true (by kernel_rfl)) (by unfold Func.isWrapper; first | (rw [if_pos (by decide +kernel)]; kernel_rfl) | (rw [if_neg (by decide +kernel)]; exact ⟨rfl, rfl⟩))
    (fun os started H enc _ => lifted9 os started H enc)
end Go.Abs.B1
namespace Go.Proofs.Ytnlhfcipapbfmaa
theorem diskPlays_holds : Rows.DiskPlaysSaid := Go.Abs.B1.over9
end Go.Proofs.Ytnlhfcipapbfmaa
