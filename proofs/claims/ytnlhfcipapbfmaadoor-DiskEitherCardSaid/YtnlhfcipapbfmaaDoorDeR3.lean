/- What is proved: the tied card of the law DiskEither (behind a crash each sector shows what it showed, or what the plate held, by what is kept): it gives true for every input, and its arguments read behind the call as they read before. Condition: the package variable junctionboxlaw02.all lies at the start as the program's text lays it (the card ties it). -/
import Derived.Test.YtnlhfcipapbfmaaDoorDe41
import Derived.Test.YtnlhfcipapbfmaaDoorDe42
import Derived.Test.YtnlhfcipapbfmaaDoorCards
import Derived.Test.YtnlhfcipapbfmaaDoorTie
import Derived.SevenTiedAt
import Derived.LaidHandle
namespace Go.Abs.B1d
open Go.Proofs
set_option maxRecDepth 100000
set_option linter.all false
theorem lifted3 (os : Os) (started : os.Started) (H : Type) (enc : TypeId × Value → H) :
    ReturnsInHanded {} Tryd.checked os 3 .any (fun w args => (YtnlhfcipapbfmaaDoor.Rows.diskEitherSpec.pre enc Tryd.prog Tryd.f3 [] false w args ∧ laidMetH Tryd.prog lay w) ∧ sizedMet enc Tryd.prog Tryd.f3 (OpenSpec.ofChange YtnlhfcipapbfmaaDoor.Rows.diskEitherSpec) false w args) (YtnlhfcipapbfmaaDoor.Rows.diskEitherSpec.post enc Tryd.prog Tryd.f3 false true false false) :=
  law_lifted_laid (C := Tryd.checked) (d := 12) own started base ok0 laid (by kernel_rfl) Tryd.func3 rfl
    (fun H ds hd => by
      have hd : ds.length = 2 := hd
      match ds, hd with
      | [_, _], _ => exact ⟨rfl, rfl, rfl⟩) (by kernel_rfl)
    lay S S_mono start
    (ChangeSpec.witness_shaped (enc := enc) (C := Tryd.checked) (os := os) (X := fun w _ => laidMetH Tryd.prog lay w) false (World.doorLaid Tryd.prog 400 os) #[.slice none 0 0, .slice none 0 0] 8 rfl (World.shaped_of_RefB (by kernel_rfl) (by kernel_rfl)) (by kernel_rfl) (by kernel_rfl) (by kernel_rfl) (door_met os _))
    (fun h xs hro hk hl hS => by
      replace hl : LiesAll Tryd.prog h 12 [22, 23] xs := hl
      obtain ⟨v, vs, rfl, h1, h2⟩ := liesAll_cons hl
      obtain ⟨v2, vs2, rfl, h3, h4⟩ := liesAll_cons h2
      obtain rfl := liesAll_nil h4
      obtain ⟨l, hll⟩ := lies22_12 h [v] (liesV_one (by kernel_rfl) h1)
      obtain ⟨ks, hks⟩ := lies23_12 h [v2] (liesV_one (by kernel_rfl) h3)
      obtain ⟨va, g1, g2, g3⟩ := S_rp hS
      obtain ⟨N, w, k, e, _, _, rfl⟩ := run3 hll hks (by omega) g1 g2 g3
      exact ⟨N, k, e⟩
)
theorem over3 : YtnlhfcipapbfmaaDoor.Rows.diskEitherRow.holds YtnlhfcipapbfmaaDoor.Tryd.pinned (OpenSpec.ofChange YtnlhfcipapbfmaaDoor.Rows.diskEitherSpec) :=
  OpenClaim.holds_of_wide 3 Tryd.f3 rfl rfl rfl rfl rfl rfl rfl ⟨rfl, rfl, rfl, rfl, rfl⟩ rfl rfl rfl rfl rfl (by kernel_rfl) Tryd.func3 (by kernel_rfl)
    (of_decide_eq_true (by kernel_rfl)) (by unfold Func.isWrapper; first | (rw [if_pos (by decide +kernel)]; kernel_rfl) | (rw [if_neg (by decide +kernel)]; exact ⟨rfl, rfl⟩))
    (fun os started H enc _ => lifted3 os started H enc)
theorem card3 : YtnlhfcipapbfmaaDoor.Rows.DiskEitherCardSaid :=
  Claim7.holds_tied_plain_at .later [] [.widerDeep] true (true, "43fd4cc3b5507d561afaf6b4142cc5f07a6540405af437d90aad1a8abd45ad5c") false
    over3 (fun _ h => by cases h) (by kernel_rfl) (fun _ h => by cases h) YtnlhfcipapbfmaaDoor.diskEither_row_tie rfl ⟨rfl, rfl⟩ (by kernel_rfl) rfl
    (fun f fn hf hfn => by
      obtain rfl : f = 3 := Option.some.inj ((show Tryd.prog.funcNamed "junctionbox/junctionboxlaw02.DiskEither" = some 3 by kernel_rfl).symm.trans hf) |>.symm
      obtain rfl : fn = Tryd.f3 := (Option.some.inj (Tryd.func3.symm.trans hfn)).symm
      exact ⟨by kernel_rfl, fun j t ht => by
        rw [Tryd.params3] at ht
        have hm : t ∈ [22, 23] := by simpa using Array.mem_of_getElem? ht
        have hall : ([22, 23].all fun u => !Tryd.prog.wantsStandIn u) = true := by kernel_rfl
        exact (show Tryd.prog.wantsStandIn t = false by simpa using List.all_eq_true.1 hall t hm)⟩)
    (by kernel_rfl)
end Go.Abs.B1d
namespace Go.Proofs.YtnlhfcipapbfmaaDoor
theorem diskEither_holds : Rows.DiskEitherCardSaid := Go.Abs.B1d.card3
end Go.Proofs.YtnlhfcipapbfmaaDoor
