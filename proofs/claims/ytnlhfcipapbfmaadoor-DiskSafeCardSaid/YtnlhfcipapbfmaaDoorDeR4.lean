/- What is proved: the tied card of the law DiskSafe (what stands on the plate stays, but for what is written; what is synced is lost by no crash): it gives true for every input, and its arguments read behind the call as they read before. Condition: the package variable junctionboxlaw02.all lies at the start as the program's text lays it (the card ties it). -/
import Derived.Test.YtnlhfcipapbfmaaDoorDe40
import Derived.Test.YtnlhfcipapbfmaaDoorDe41
import Derived.Test.YtnlhfcipapbfmaaDoorCards
import Derived.Test.YtnlhfcipapbfmaaDoorTie
import Derived.SevenTiedAt
import Derived.LaidHandle
namespace Go.Abs.B1d
open Go.Proofs
set_option maxRecDepth 100000
set_option linter.all false
theorem lifted4 (os : Os) (started : os.Started) (H : Type) (enc : TypeId × Value → H) :
    ReturnsInHanded {} Tryd.checked os 4 .any (fun w args => (YtnlhfcipapbfmaaDoor.Rows.diskSafeSpec.pre enc Tryd.prog Tryd.f4 [] false w args ∧ laidMetH Tryd.prog lay w) ∧ sizedMet enc Tryd.prog Tryd.f4 (OpenSpec.ofChange YtnlhfcipapbfmaaDoor.Rows.diskSafeSpec) false w args) (YtnlhfcipapbfmaaDoor.Rows.diskSafeSpec.post enc Tryd.prog Tryd.f4 false true false false) :=
  law_lifted_laid (C := Tryd.checked) (d := 12) own started base ok0 laid (by kernel_rfl) Tryd.func4 rfl
    (fun H ds hd => by
      have hd : ds.length = 3 := hd
      match ds, hd with
      | [_, _, _], _ => exact ⟨rfl, rfl, rfl⟩) (by kernel_rfl)
    lay S S_mono start
    (ChangeSpec.witness_shaped (enc := enc) (C := Tryd.checked) (os := os) (X := fun w _ => laidMetH Tryd.prog lay w) false (World.doorLaid Tryd.prog 400 os) #[.slice none 0 0, .slice none 0 0, .slice none 0 0] 8 rfl (World.shaped_of_RefB (by kernel_rfl) (by kernel_rfl)) (by kernel_rfl) (by kernel_rfl) (by kernel_rfl) (door_met os _))
    (fun h xs hro hk hl hS => by
      replace hl : LiesAll Tryd.prog h 12 [22, 22, 23] xs := hl
      obtain ⟨v, vs, rfl, h1, h2⟩ := liesAll_cons hl
      obtain ⟨v2, vs2, rfl, h3, h4⟩ := liesAll_cons h2
      obtain ⟨v3, vs3, rfl, h5, h6⟩ := liesAll_cons h4
      obtain rfl := liesAll_nil h6
      obtain ⟨l, hll⟩ := lies22_12 h [v] (liesV_one (by kernel_rfl) h1)
      obtain ⟨m, hmm⟩ := lies22_12 h [v2] (liesV_one (by kernel_rfl) h3)
      obtain ⟨ks, hks⟩ := lies23_12 h [v3] (liesV_one (by kernel_rfl) h5)
      obtain ⟨va, g1, g2, g3⟩ := S_rp hS
      obtain ⟨N, w, k, e, _, _, rfl⟩ := run4 hll hmm hks (by omega) g1 g2 g3
      exact ⟨N, k, e⟩
)
theorem over4 : YtnlhfcipapbfmaaDoor.Rows.diskSafeRow.holds YtnlhfcipapbfmaaDoor.Tryd.pinned (OpenSpec.ofChange YtnlhfcipapbfmaaDoor.Rows.diskSafeSpec) :=
  OpenClaim.holds_of_wide 4 Tryd.f4 rfl rfl rfl rfl rfl rfl rfl ⟨rfl, rfl, rfl, rfl, rfl⟩ rfl rfl rfl rfl rfl (by kernel_rfl) Tryd.func4 (by kernel_rfl)
    (of_decide_eq_true (by kernel_rfl)) (by unfold Func.isWrapper; first | (rw [if_pos (by decide +kernel)]; kernel_rfl) | (rw [if_neg (by decide +kernel)]; exact ⟨rfl, rfl⟩))
    (fun os started H enc _ => lifted4 os started H enc)
theorem card4 : YtnlhfcipapbfmaaDoor.Rows.DiskSafeCardSaid :=
  Claim7.holds_tied_plain_at .later [] [.widerDeep] true (true, "43fd4cc3b5507d561afaf6b4142cc5f07a6540405af437d90aad1a8abd45ad5c") false
    over4 (fun _ h => by cases h) (by kernel_rfl) (fun _ h => by cases h) YtnlhfcipapbfmaaDoor.diskSafe_row_tie rfl ⟨rfl, rfl⟩ (by kernel_rfl) rfl
    (fun f fn hf hfn => by
      obtain rfl : f = 4 := Option.some.inj ((show Tryd.prog.funcNamed "junctionbox/junctionboxlaw02.DiskSafe" = some 4 by kernel_rfl).symm.trans hf) |>.symm
      obtain rfl : fn = Tryd.f4 := (Option.some.inj (Tryd.func4.symm.trans hfn)).symm
      exact ⟨by kernel_rfl, fun j t ht => by
        rw [Tryd.params4] at ht
        have hm : t ∈ [22, 22, 23] := by simpa using Array.mem_of_getElem? ht
        have hall : ([22, 22, 23].all fun u => !Tryd.prog.wantsStandIn u) = true := by kernel_rfl
        exact (show Tryd.prog.wantsStandIn t = false by simpa using List.all_eq_true.1 hall t hm)⟩)
    (by kernel_rfl)
end Go.Abs.B1d
namespace Go.Proofs.YtnlhfcipapbfmaaDoor
theorem diskSafe_holds : Rows.DiskSafeCardSaid := Go.Abs.B1d.card4
end Go.Proofs.YtnlhfcipapbfmaaDoor
