/- What is proved: the tied card of the law SweepNone (what a sweep without an arena tells, and one of an arena without blocks): it gives true for every input, and its arguments read behind the call as they read before. Condition: the package variables prefix.widths and bits.deBruijn32tab lie at the start as the text of the program lays them (the card ties it). -/
import Derived.Test.YtjimckjdkgbojaaGreatDoorSn7
import Derived.Test.YtjimckjdkgbojaaGreatDoorDt6
import Derived.Test.YtjimckjdkgbojaaGreatDoorCards
import Derived.Test.YtjimckjdkgbojaaGreatDoorTie
import Derived.SevenTiedAt
import Derived.LaidHandle
namespace Go.Abs.D1
open Go.Proofs
set_option maxRecDepth 100000
set_option linter.all false
theorem lifted5 (os : Os) (started : os.Started) (H : Type) (enc : TypeId × Value → H) :
    ReturnsInHanded {} Tryz.checked os 5 .any (fun w args => (YtjimckjdkgbojaaGreatDoor.Rows.sweepNoneSpec.pre enc Tryz.prog Tryz.f5 [] false w args ∧ laidMetH Tryz.prog lay w) ∧ sizedMet enc Tryz.prog Tryz.f5 (OpenSpec.ofChange YtjimckjdkgbojaaGreatDoor.Rows.sweepNoneSpec) false w args) (YtjimckjdkgbojaaGreatDoor.Rows.sweepNoneSpec.post enc Tryz.prog Tryz.f5 false true false false) :=
  law_lifted_laid (C := Tryz.checked) (d := 12) own started base okL5 laid (by kernel_rfl) Tryz.func5 rfl
    (fun H ds hd => by
      have hd : ds.length = 1 := hd
      match ds, hd with
      | [_], _ => exact ⟨rfl, rfl, rfl⟩) (by kernel_rfl)
    lay S S_mono start
    (ChangeSpec.witness_shaped (enc := enc) (C := Tryz.checked) (os := os) (X := fun w _ => laidMetH Tryz.prog lay w) false (World.doorLaid Tryz.prog 400 os) #[.int .i64 0] 8 rfl (World.shaped_of_RefB (by kernel_rfl) (by kernel_rfl)) (by kernel_rfl) (by kernel_rfl) (by kernel_rfl) (door_met os _))
    (fun h xs hro hk hl hS => by
      replace hl : LiesAll Tryz.prog h 12 [3] xs := hl
      obtain ⟨v, vs, rfl, h1, h2⟩ := liesAll_cons hl
      obtain rfl := liesAll_nil h2
      obtain ⟨n, rfl, -, -⟩ := liesV_int (k := .i64) (by kernel_rfl) h1
      obtain ⟨k, e⟩ := run5 hS.1 (by omega) n
      exact ⟨3000, k, e⟩
)
theorem over5 : YtjimckjdkgbojaaGreatDoor.Rows.sweepNoneRow.holds YtjimckjdkgbojaaGreatDoor.Tryz.pinned (OpenSpec.ofChange YtjimckjdkgbojaaGreatDoor.Rows.sweepNoneSpec) :=
  OpenClaim.holds_of_wide 5 Tryz.f5 rfl rfl rfl rfl rfl rfl rfl ⟨rfl, rfl, rfl, rfl, rfl⟩ rfl rfl rfl rfl rfl (by kernel_rfl) Tryz.func5 (by kernel_rfl)
    (of_decide_eq_true (by kernel_rfl)) (by unfold Func.isWrapper; first | (rw [if_pos (by decide +kernel)]; kernel_rfl) | (rw [if_neg (by decide +kernel)]; exact ⟨rfl, rfl⟩))
    (fun os started H enc _ => lifted5 os started H enc)
theorem card5 : YtjimckjdkgbojaaGreatDoor.Rows.SweepNoneCardSaid :=
  Claim7.holds_tied_plain_at .later [] [.data, .data] true (true, "e5c20abcf290c1167f9a8bcc850353f5fd149451dab35d78c07328d38367f74e") false
    over5 (fun _ h => by cases h) (by kernel_rfl) (fun _ h => by cases h) YtjimckjdkgbojaaGreatDoor.sweepNone_row_tie rfl ⟨rfl, rfl⟩ (by kernel_rfl) rfl
    (fun f fn hf hfn => by
      obtain rfl : f = 5 := Option.some.inj ((show Tryz.prog.funcNamed "junctionbox/junctionboxlaw16.SweepNone" = some 5 by kernel_rfl).symm.trans hf) |>.symm
      obtain rfl : fn = Tryz.f5 := (Option.some.inj (Tryz.func5.symm.trans hfn)).symm
      exact ⟨by kernel_rfl, fun j t ht => by
        rw [Tryz.params5] at ht
        have hm : t ∈ [3] := by simpa using Array.mem_of_getElem? ht
        have hall : ([3].all fun u => !Tryz.prog.wantsStandIn u) = true := by kernel_rfl
        exact (show Tryz.prog.wantsStandIn t = false by simpa using List.all_eq_true.1 hall t hm)⟩)
    (by kernel_rfl)
end Go.Abs.D1
namespace Go.Proofs.YtjimckjdkgbojaaGreatDoor
theorem sweepNone_holds : Rows.SweepNoneCardSaid := Go.Abs.D1.card5
end Go.Proofs.YtjimckjdkgbojaaGreatDoor
