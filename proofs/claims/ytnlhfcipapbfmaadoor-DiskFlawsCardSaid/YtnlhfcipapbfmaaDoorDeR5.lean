/- What is proved: the tied card of the law DiskFlaws (what fails changes nothing; reads do not burn a fuse; without power nothing is done): it gives true for every input, and its arguments read behind the call as they read before. Condition: the package variable junctionboxlaw02.all lies at the start as the program's text lays it (the card ties it). -/
import Derived.Test.YtnlhfcipapbfmaaDoorDe41
import Derived.Test.YtnlhfcipapbfmaaDoorCards
import Derived.Test.YtnlhfcipapbfmaaDoorTie
import Derived.SevenTiedAt
import Derived.LaidHandle
namespace Go.Abs.B1d
open Go.Proofs
set_option maxRecDepth 100000
set_option linter.all false
theorem lifted5 (os : Os) (started : os.Started) (H : Type) (enc : TypeId × Value → H) :
    ReturnsInHanded {} Tryd.checked os 5 .any (fun w args => (YtnlhfcipapbfmaaDoor.Rows.diskFlawsSpec.pre enc Tryd.prog Tryd.f5 [] false w args ∧ laidMetH Tryd.prog lay w) ∧ sizedMet enc Tryd.prog Tryd.f5 (OpenSpec.ofChange YtnlhfcipapbfmaaDoor.Rows.diskFlawsSpec) false w args) (YtnlhfcipapbfmaaDoor.Rows.diskFlawsSpec.post enc Tryd.prog Tryd.f5 false true false false) :=
  law_lifted_laid (C := Tryd.checked) (d := 12) own started base ok0 laid (by kernel_rfl) Tryd.func5 rfl
    (fun H ds hd => by
      have hd : ds.length = 3 := hd
      match ds, hd with
      | [_, _, _], _ => exact ⟨rfl, rfl, rfl⟩) (by kernel_rfl)
    lay S S_mono start
    (ChangeSpec.witness_shaped (enc := enc) (C := Tryd.checked) (os := os) (X := fun w _ => laidMetH Tryd.prog lay w) false (World.doorLaid Tryd.prog 400 os) #[.slice none 0 0, .agg #[.int .i64 0, .int .i64 0, .int .i64 0, .int .u8 0, .slice none 0 0], .int .i64 0] 8 rfl (World.shaped_of_RefB (by kernel_rfl) (by kernel_rfl)) (by kernel_rfl) (by kernel_rfl) (by kernel_rfl) (door_met os _))
    (fun h xs hro hk hl hS => by
      replace hl : LiesAll Tryd.prog h 12 [22, 42, 3] xs := hl
      obtain ⟨v, vs, rfl, h1, h2⟩ := liesAll_cons hl
      obtain ⟨v2, vs2, rfl, h3, h4⟩ := liesAll_cons h2
      obtain ⟨v3, vs3, rfl, h5, h6⟩ := liesAll_cons h4
      obtain rfl := liesAll_nil h6
      obtain ⟨l, hll⟩ := lies22_12 h [v] (liesV_one (by kernel_rfl) h1)
      obtain ⟨cs, rfl, hcs⟩ := liesV_agg (by kernel_rfl) h3
      obtain ⟨x, hx⟩ := lies42_12 h cs hcs
      obtain ⟨n, rfl, -, -⟩ := liesV_int (k := .i64) (by kernel_rfl) h5
      obtain ⟨va, g1, g2, g3⟩ := S_rp hS
      obtain ⟨N, w, k, e, _, _, rfl⟩ := run5 n hll hx (by omega) g1 g2 g3
      exact ⟨N, k, e⟩
)
theorem over5 : YtnlhfcipapbfmaaDoor.Rows.diskFlawsRow.holds YtnlhfcipapbfmaaDoor.Tryd.pinned (OpenSpec.ofChange YtnlhfcipapbfmaaDoor.Rows.diskFlawsSpec) :=
  OpenClaim.holds_of_wide 5 Tryd.f5 rfl rfl rfl rfl rfl rfl rfl ⟨rfl, rfl, rfl, rfl, rfl⟩ rfl rfl rfl rfl rfl (by kernel_rfl) Tryd.func5 (by kernel_rfl)
    (of_decide_eq_true (by kernel_rfl)) (by unfold Func.isWrapper; first | (rw [if_pos (by decide +kernel)]; kernel_rfl) | (rw [if_neg (by decide +kernel)]; exact ⟨rfl, rfl⟩))
    (fun os started H enc _ => lifted5 os started H enc)
theorem card5 : YtnlhfcipapbfmaaDoor.Rows.DiskFlawsCardSaid :=
  Claim7.holds_tied_plain_at .later [] [.widerDeep] true (true, "43fd4cc3b5507d561afaf6b4142cc5f07a6540405af437d90aad1a8abd45ad5c") false
    over5 (fun _ h => by cases h) (by kernel_rfl) (fun _ h => by cases h) YtnlhfcipapbfmaaDoor.diskFlaws_row_tie rfl ⟨rfl, rfl⟩ (by kernel_rfl) rfl
    (fun f fn hf hfn => by
      obtain rfl : f = 5 := Option.some.inj ((show Tryd.prog.funcNamed "junctionbox/junctionboxlaw02.DiskFlaws" = some 5 by kernel_rfl).symm.trans hf) |>.symm
      obtain rfl : fn = Tryd.f5 := (Option.some.inj (Tryd.func5.symm.trans hfn)).symm
      exact ⟨by kernel_rfl, fun j t ht => by
        rw [Tryd.params5] at ht
        have hm : t ∈ [22, 42, 3] := by simpa using Array.mem_of_getElem? ht
        have hall : ([22, 42, 3].all fun u => !Tryd.prog.wantsStandIn u) = true := by kernel_rfl
        exact (show Tryd.prog.wantsStandIn t = false by simpa using List.all_eq_true.1 hall t hm)⟩)
    (by kernel_rfl)
end Go.Abs.B1d
namespace Go.Proofs.YtnlhfcipapbfmaaDoor
theorem diskFlaws_holds : Rows.DiskFlawsCardSaid := Go.Abs.B1d.card5
end Go.Proofs.YtnlhfcipapbfmaaDoor
