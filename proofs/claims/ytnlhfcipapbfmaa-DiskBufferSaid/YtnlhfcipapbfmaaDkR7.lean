/- What is proved: the law DiskBuffer (the buffer has no more than it may, no sector twice, and what was written last) gives true for every input, and its arguments read behind the call as they read before. No condition beside the row's own. -/
import Derived.Test.YtnlhfcipapbfmaaDk43
import Derived.Test.YtnlhfcipapbfmaaRows
namespace Go.Abs.B1
open Go.Proofs
set_option maxRecDepth 100000
set_option linter.all false
theorem lifted7 (os : Os) (started : os.Started) (H : Type) (enc : TypeId × Value → H) :
    ReturnsInHanded {} Try.checked os 7 .any (Ytnlhfcipapbfmaa.Rows.diskBufferSpec.pre6 enc Try.prog Try.f7 Ytnlhfcipapbfmaa.Rows.diskBufferRow.domain false) (Ytnlhfcipapbfmaa.Rows.diskBufferSpec.post enc Try.prog Try.f7 false true false false) :=
  law_lifted (C := Try.checked) (d := 12) own started base ok0 laid (by kernel_rfl) Try.func7 rfl
    (fun H ds hd => by
      have hd : ds.length = 1 := hd
      match ds, hd with
      | [_], _ => exact ⟨rfl, rfl, rfl⟩) (by kernel_rfl)
    (ChangeSpec.witness6 (enc := enc) (C := Try.checked) false ⟨#[], #[.slice none 0 0], []⟩ 8 (by kernel_rfl) (by kernel_rfl) (by kernel_rfl) (by kernel_rfl))
    (fun h xs hro hk hl => by
      replace hl : LiesAll Try.prog h 12 [88] xs := hl
      obtain ⟨v, vs, rfl, h1, h2⟩ := liesAll_cons hl
      obtain rfl := liesAll_nil h2
      obtain ⟨x, hx⟩ := lies88_12 h [v] (liesV_one (by kernel_rfl) h1)
      obtain ⟨N, w, k, e, _, _, rfl⟩ := run7 hx (by omega)
      exact ⟨N, k, e⟩
)
theorem over7 : Ytnlhfcipapbfmaa.Rows.diskBufferRow.holds Ytnlhfcipapbfmaa.Try.pinned (OpenSpec.ofChange Ytnlhfcipapbfmaa.Rows.diskBufferSpec) :=
  OpenClaim.holds_of_wide 7 Try.f7 rfl rfl rfl rfl rfl rfl rfl ⟨rfl, rfl, rfl, rfl, rfl⟩ rfl rfl rfl rfl rfl (by kernel_rfl) Try.func7 (by kernel_rfl)
    (of_decide_eq_true (by kernel_rfl)) (by unfold Func.isWrapper; first | (rw [if_pos (by decide +kernel)]; kernel_rfl) | (rw [if_neg (by decide +kernel)]; exact ⟨rfl, rfl⟩))
    (fun os started H enc _ => lifted7 os started H enc)
end Go.Abs.B1
namespace Go.Proofs.Ytnlhfcipapbfmaa
theorem diskBuffer_holds : Rows.DiskBufferSaid := Go.Abs.B1.over7
end Go.Proofs.Ytnlhfcipapbfmaa
