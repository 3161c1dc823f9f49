/- What is proved: the tied card of the law BitmapRanks (a rank is a place): it gives true for every input, and its arguments read behind the call as they read before. Condition: the package variable math/bits.deBruijn32tab lies at the start as the program's text lays it (the card ties it). -/
import Derived.Test.YtgdbkohmdflckaaDoorDa12
import Derived.Test.YtgdbkohmdflckaaDoorDa13
import Derived.Test.YtgdbkohmdflckaaDoorCards
import Derived.Test.YtgdbkohmdflckaaDoorTie
import Derived.SevenTiedAt
import Derived.LaidHandle
namespace Go.Abs.A1d
open Go.Proofs
set_option maxRecDepth 100000
set_option linter.all false
theorem door_met (os : Os) (args : Array Value) : laidMetH Tryd.prog lay ((World.doorLaid Tryd.prog 400 os).forCall (fun _ _ => 0) ⟨#[], args, []⟩).memory :=
  laidMetH_of_parts3 (fuel := 8) (laidMet_of_run' 8 (by kernel_rfl) (by kernel_rfl)) (by kernel_rfl) (by kernel_rfl)
theorem lifted4 (os : Os) (started : os.Started) (H : Type) (enc : TypeId × Value → H) :
    ReturnsInHanded {} Tryd.checked os 4 .any (fun w args => (YtgdbkohmdflckaaDoor.Rows.bitmapRanksSpec.pre enc Tryd.prog Tryd.f4 [] false w args ∧ laidMetH Tryd.prog lay w) ∧ sizedMet enc Tryd.prog Tryd.f4 (OpenSpec.ofChange YtgdbkohmdflckaaDoor.Rows.bitmapRanksSpec) false w args) (YtgdbkohmdflckaaDoor.Rows.bitmapRanksSpec.post enc Tryd.prog Tryd.f4 false true false false) :=
  law_lifted_laid (C := Tryd.checked) (d := 4) own started base okS3 laid (by kernel_rfl) Tryd.func4 rfl
    (fun H ds hd => by
      have hd : ds.length = 2 := hd
      match ds, hd with
      | [_, _], _ => exact ⟨rfl, rfl, rfl⟩) (by kernel_rfl)
    lay S S_mono start
    (ChangeSpec.witness_shaped (enc := enc) (C := Tryd.checked) (os := os) (X := fun w _ => laidMetH Tryd.prog lay w) false (World.doorLaid Tryd.prog 400 os) #[.int .u32 0, .int .i64 0] 8 rfl (World.shaped_of_RefB (by kernel_rfl) (by kernel_rfl)) (by kernel_rfl) (by kernel_rfl) (by kernel_rfl) (door_met os _))
    (fun h xs hro hk hl hS => by
      replace hl : LiesAll Tryd.prog h 4 [22, 3] xs := hl
      obtain ⟨v, vs, rfl, h1, h2⟩ := liesAll_cons hl
      obtain ⟨v2, vs2, rfl, h3, h4⟩ := liesAll_cons h2
      obtain rfl := liesAll_nil h4
      obtain ⟨a, rfl, ha⟩ := liesV_int Tryd.underlying22 h1
      obtain ⟨b, rfl, hb⟩ := liesV_int Tryd.underlying3 h3
      obtain ⟨tab, t1, t2, t3⟩ := hS
      exact ⟨_, run4 t1 a b (u32_bounds ha) h t2 t3 (by omega)⟩)
theorem over4 : YtgdbkohmdflckaaDoor.Rows.bitmapRanksRow.holds YtgdbkohmdflckaaDoor.Tryd.pinned (OpenSpec.ofChange YtgdbkohmdflckaaDoor.Rows.bitmapRanksSpec) :=
  OpenClaim.holds_of_wide 4 Tryd.f4 rfl rfl rfl rfl rfl rfl rfl ⟨rfl, rfl, rfl, rfl, rfl⟩ rfl rfl rfl rfl rfl (by kernel_rfl) Tryd.func4 (by kernel_rfl)
    (of_decide_eq_true (by kernel_rfl)) (by unfold Func.isWrapper; first | (rw [if_pos (by decide +kernel)]; kernel_rfl) | (rw [if_neg (by decide +kernel)]; exact ⟨rfl, rfl⟩))
    (fun os started H enc _ => lifted4 os started H enc)
theorem card4 : YtgdbkohmdflckaaDoor.Rows.BitmapRanksCardSaid :=
  Claim7.holds_tied_plain_at .later [] [.data] true (true, "1da5cf696163763365eabd5b547456c1a449ebbcf214a471cba2a4b13f5d1100") false
    over4 (fun _ h => by cases h) (by kernel_rfl) (fun _ h => by cases h) YtgdbkohmdflckaaDoor.bitmapRanks_row_tie rfl ⟨rfl, rfl⟩ (by kernel_rfl) rfl
    (fun f fn hf hfn => by
      obtain rfl : f = 4 := Option.some.inj ((show Tryd.prog.funcNamed "junctionbox/junctionboxlaw07.BitmapRanks" = some 4 by kernel_rfl).symm.trans hf) |>.symm
      obtain rfl : fn = Tryd.f4 := (Option.some.inj (Tryd.func4.symm.trans hfn)).symm
      exact ⟨by kernel_rfl, fun j t ht => by
        rw [Tryd.params4] at ht
        have hm : t ∈ [22, 3] := by simpa using Array.mem_of_getElem? ht
        have hall : ([22, 3].all fun u => !Tryd.prog.wantsStandIn u) = true := by kernel_rfl
        exact (show Tryd.prog.wantsStandIn t = false by simpa using List.all_eq_true.1 hall t hm)⟩)
    (by kernel_rfl)
end Go.Abs.A1d
namespace Go.Proofs.YtgdbkohmdflckaaDoor
theorem bitmapRanks_holds : Rows.BitmapRanksCardSaid := Go.Abs.A1d.card4
end Go.Proofs.YtgdbkohmdflckaaDoor
