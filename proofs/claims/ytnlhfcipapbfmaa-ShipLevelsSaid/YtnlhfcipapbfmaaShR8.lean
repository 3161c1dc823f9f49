/- What is proved: the law ShipLevels (two journals with something in common come to have the same, in so many turns) gives true for every input, and its arguments read behind the call as they read before. No condition beside the row's own. -/
import Derived.Test.YtnlhfcipapbfmaaSl5
import Derived.Test.YtnlhfcipapbfmaaRows
namespace Go.Abs.B1
open Go.Proofs
set_option maxRecDepth 100000
set_option linter.all false
theorem lifted8 (os : Os) (started : os.Started) (H : Type) (enc : TypeId × Value → H) :
    ReturnsInHanded {} Try.checked os 8 .any (Ytnlhfcipapbfmaa.Rows.shipLevelsSpec.pre6 enc Try.prog Try.f8 Ytnlhfcipapbfmaa.Rows.shipLevelsRow.domain false) (Ytnlhfcipapbfmaa.Rows.shipLevelsSpec.post enc Try.prog Try.f8 false true false false) :=
  law_lifted (C := Try.checked) (d := 12) own started base okS8 laid (by kernel_rfl) Try.func8 rfl
    (fun H ds hd => by
      have hd : ds.length = 2 := hd
      match ds, hd with
      | [_, _], _ => exact ⟨rfl, rfl, rfl⟩) (by kernel_rfl)
    (ChangeSpec.witness6 (enc := enc) (C := Try.checked) false ⟨#[], #[.agg #[.int .i64 0, .int .i64 0, .int .i64 0, .slice none 0 0, .int .i64 0, .int .i64 0], .int .u64 0], []⟩ 8 (by kernel_rfl) (by kernel_rfl) (by kernel_rfl) (by kernel_rfl))
    (fun h xs hro hk hl => by
      replace hl : LiesAll Try.prog h 12 [106, 22] xs := hl
      obtain ⟨v, vs, rfl, h1, h2⟩ := liesAll_cons hl
      obtain ⟨v2, vs2, rfl, h3, h4⟩ := liesAll_cons h2
      obtain rfl := liesAll_nil h4
      obtain ⟨cs, rfl, h5⟩ := liesV_agg (by kernel_rfl) h1
      obtain ⟨m, rfl, m1, m2⟩ := liesV_int (k := .u64) (by kernel_rfl) h3
      obtain ⟨x, hx⟩ := lies106_12 h cs h5
      obtain ⟨N, w, k, e, _, _, rfl⟩ := run8 h cs x m ⟨m1, m2⟩ hx (by omega)
      exact ⟨N, k, e⟩
)
theorem over8 : Ytnlhfcipapbfmaa.Rows.shipLevelsRow.holds Ytnlhfcipapbfmaa.Try.pinned (OpenSpec.ofChange Ytnlhfcipapbfmaa.Rows.shipLevelsSpec) :=
  OpenClaim.holds_of_wide 8 Try.f8 rfl rfl rfl rfl rfl rfl rfl ⟨rfl, rfl, rfl, rfl, rfl⟩ rfl rfl rfl rfl rfl (by kernel_rfl) Try.func8 (by kernel_rfl)
    (of_decide_eq_true (by kernel_rfl)) (by unfold Func.isWrapper; first | (rw [if_pos (by decide +kernel)]; kernel_rfl) | (rw [if_neg (by decide +kernel)]; exact ⟨rfl, rfl⟩))
    (fun os started H enc _ => lifted8 os started H enc)
end Go.Abs.B1
namespace Go.Proofs.Ytnlhfcipapbfmaa
theorem shipLevels_holds : Rows.ShipLevelsSaid := Go.Abs.B1.over8
end Go.Proofs.Ytnlhfcipapbfmaa
