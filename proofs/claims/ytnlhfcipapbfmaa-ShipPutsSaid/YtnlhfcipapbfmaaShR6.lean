/- What is proved: the law ShipPuts (what is accepted stands where it was offered; nothing ahead of it is touched) gives true for every input, and its arguments read behind the call as they read before. No condition beside the row's own. -/
import Derived.Test.YtnlhfcipapbfmaaSp5
import Derived.Test.YtnlhfcipapbfmaaRows
namespace Go.Abs.B1
open Go.Proofs
set_option maxRecDepth 100000
set_option linter.all false
theorem lifted6 (os : Os) (started : os.Started) (H : Type) (enc : TypeId × Value → H) :
    ReturnsInHanded {} Try.checked os 6 .any (Ytnlhfcipapbfmaa.Rows.shipPutsSpec.pre6 enc Try.prog Try.f6 Ytnlhfcipapbfmaa.Rows.shipPutsRow.domain false) (Ytnlhfcipapbfmaa.Rows.shipPutsSpec.post enc Try.prog Try.f6 false true false false) :=
  law_lifted (C := Try.checked) (d := 12) own started base okS6p laid (by kernel_rfl) Try.func6 rfl
    (fun H ds hd => by
      have hd : ds.length = 2 := hd
      match ds, hd with
      | [_, _], _ => exact ⟨rfl, rfl, rfl⟩) (by kernel_rfl)
    (ChangeSpec.witness6 (enc := enc) (C := Try.checked) false ⟨#[], #[.agg #[.int .u64 0, .int .u64 0, .int .u64 0, .slice none 0 0, .int .u32 0, .int .u64 0, .int .u32 0, .int .u64 0, .int .u32 0, .int .u64 0, .slice none 0 0], .agg #[.int .i64 0, .int .i64 0, .int .i64 0, .int .u64 0, .int .u64 0, .int .u64 0, .slice none 0 0, .int .u64 0, .bool false, .int .u64 0, .int .u64 0, .int .u64 0, .int .u64 0, .slice none 0 0, .int .u32 0, .int .u64 0, .int .u32 0, .int .u64 0, .int .u32 0, .int .u64 0, .int .u32 0, .slice none 0 0, .int .i64 0]], []⟩ 8 (by kernel_rfl) (by kernel_rfl) (by kernel_rfl) (by kernel_rfl))
    (fun h xs hro hk hl => by
      replace hl : LiesAll Try.prog h 12 [36, 47] xs := hl
      obtain ⟨v, vs, rfl, h1, h2⟩ := liesAll_cons hl
      obtain ⟨v2, vs2, rfl, h3, h4⟩ := liesAll_cons h2
      obtain rfl := liesAll_nil h4
      obtain ⟨cs, rfl, h5⟩ := liesV_agg (by kernel_rfl) h1
      obtain ⟨ds, rfl, h6⟩ := liesV_agg (by kernel_rfl) h3
      obtain ⟨x, hx⟩ := lies36_12 h cs h5
      obtain ⟨y, hy⟩ := lies47_12 h ds h6
      obtain ⟨N, w, k, e, _, _, rfl⟩ := run6 h cs ds x y hx hy (by omega)
      exact ⟨N, k, e⟩
)
theorem over6 : Ytnlhfcipapbfmaa.Rows.shipPutsRow.holds Ytnlhfcipapbfmaa.Try.pinned (OpenSpec.ofChange Ytnlhfcipapbfmaa.Rows.shipPutsSpec) :=
  OpenClaim.holds_of_wide 6 Try.f6 rfl rfl rfl rfl rfl rfl rfl ⟨rfl, rfl, rfl, rfl, rfl⟩ rfl rfl rfl rfl rfl (by kernel_rfl) Try.func6 (by kernel_rfl)
    (of_decide_eq_true (by kernel_rfl)) (by unfold Func.isWrapper; first | (rw [if_pos (by decide +kernel)]; kernel_rfl) | (rw [if_neg (by decide +kernel)]; exact ⟨rfl, rfl⟩))
    (fun os started H enc _ => lifted6 os started H enc)
end Go.Abs.B1
namespace Go.Proofs.Ytnlhfcipapbfmaa
theorem shipPuts_holds : Rows.ShipPutsSaid := Go.Abs.B1.over6
end Go.Proofs.Ytnlhfcipapbfmaa
