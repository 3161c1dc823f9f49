/- What is proved: the tied card of the law TrieNone (what is told of other versions, and without an arena): it gives true for every input, and its arguments read behind the call as they read before. Condition: the package variables prefix.widths and bits.deBruijn32tab lie at the start as the text of the program lays them (the card ties it). -/
import Derived.Test.YtjimckjdkgbojaaGreatDoorDt5
import Derived.Test.YtjimckjdkgbojaaGreatDoorDt6
import Derived.Test.YtjimckjdkgbojaaGreatDoorCards
import Derived.Test.YtjimckjdkgbojaaGreatDoorTie
import Derived.SevenTiedAt
import Derived.LaidHandle
namespace Go.Abs.D1
open Go.Proofs
set_option maxRecDepth 100000
set_option linter.all false
theorem lifted4 (os : Os) (started : os.Started) (H : Type) (enc : TypeId × Value → H) :
    ReturnsInHanded {} Tryz.checked os 4 .any (fun w args => (YtjimckjdkgbojaaGreatDoor.Rows.trieNoneSpec.pre enc Tryz.prog Tryz.f4 [] false w args ∧ laidMetH Tryz.prog lay w) ∧ sizedMet enc Tryz.prog Tryz.f4 (OpenSpec.ofChange YtjimckjdkgbojaaGreatDoor.Rows.trieNoneSpec) false w args) (YtjimckjdkgbojaaGreatDoor.Rows.trieNoneSpec.post enc Tryz.prog Tryz.f4 false true false false) :=
  law_lifted_laid (C := Tryz.checked) (d := 12) own started base okJ4 laid (by kernel_rfl) Tryz.func4 rfl
    (fun H ds hd => by
      have hd : ds.length = 3 := hd
      match ds, hd with
      | [_, _, _], _ => exact ⟨rfl, rfl, rfl⟩) (by kernel_rfl)
    lay S S_mono start
    (ChangeSpec.witness_shaped (enc := enc) (C := Tryz.checked) (os := os) (X := fun w _ => laidMetH Tryz.prog lay w) false (World.doorLaid Tryz.prog 400 os) #[.agg #[.int .i64 0, .int .u8 0, .int .u8 0, .int .u8 0, .int .u8 0, .int .u8 0, .int .u8 0, .int .u8 0, .int .u8 0, .int .u8 0, .int .u8 0, .int .u8 0, .int .u8 0, .int .u8 0, .int .u8 0, .int .u8 0, .int .u8 0, .int .i64 0, .int .i64 0], .agg #[.int .i64 0, .int .u8 0, .int .u8 0, .int .u8 0, .int .u8 0, .int .u8 0, .int .u8 0, .int .u8 0, .int .u8 0, .int .u8 0, .int .u8 0, .int .u8 0, .int .u8 0, .int .u8 0, .int .u8 0, .int .u8 0, .int .u8 0, .int .i64 0, .int .i64 0, .int .i64 0, .int .i64 0, .bool false, .bool false], .int .i64 0] 8 rfl (World.shaped_of_RefB (by kernel_rfl) (by kernel_rfl)) (by kernel_rfl) (by kernel_rfl) (by kernel_rfl) (door_met os _))
    (fun h xs hro hk hl hS => by
      replace hl : LiesAll Tryz.prog h 12 [37, 39, 3] xs := hl
      obtain ⟨v, vs, rfl, h1, h2⟩ := liesAll_cons hl
      obtain ⟨v2, vs2, rfl, h3, h4⟩ := liesAll_cons h2
      obtain ⟨v3, vs3, rfl, h5, h6⟩ := liesAll_cons h4
      obtain rfl := liesAll_nil h6
      obtain ⟨cs, rfl, g1⟩ := liesV_agg (by kernel_rfl) h1
      obtain ⟨ds, rfl, g2⟩ := liesV_agg (by kernel_rfl) h3
      obtain ⟨n, rfl, -, -⟩ := liesV_int (k := .i64) (by kernel_rfl) h5
      obtain ⟨x, rfl, hx⟩ := lies37_12 h cs g1
      obtain ⟨y, rfl, hy⟩ := lies39_12 h ds g2
      exact ⟨1, h, law4 ⟨_, _, n, rfl, hx, hy⟩ hS.1⟩
)
theorem over4 : YtjimckjdkgbojaaGreatDoor.Rows.trieNoneRow.holds YtjimckjdkgbojaaGreatDoor.Tryz.pinned (OpenSpec.ofChange YtjimckjdkgbojaaGreatDoor.Rows.trieNoneSpec) :=
  OpenClaim.holds_of_wide 4 Tryz.f4 rfl rfl rfl rfl rfl rfl rfl ⟨rfl, rfl, rfl, rfl, rfl⟩ rfl rfl rfl rfl rfl (by kernel_rfl) Tryz.func4 (by kernel_rfl)
    (of_decide_eq_true (by kernel_rfl)) (by unfold Func.isWrapper; first | (rw [if_pos (by decide +kernel)]; kernel_rfl) | (rw [if_neg (by decide +kernel)]; exact ⟨rfl, rfl⟩))
    (fun os started H enc _ => lifted4 os started H enc)
theorem card4 : YtjimckjdkgbojaaGreatDoor.Rows.TrieNoneCardSaid :=
  Claim7.holds_tied_plain_at .later [] [.data, .data] true (true, "e5c20abcf290c1167f9a8bcc850353f5fd149451dab35d78c07328d38367f74e") false
    over4 (fun _ h => by cases h) (by kernel_rfl) (fun _ h => by cases h) YtjimckjdkgbojaaGreatDoor.trieNone_row_tie rfl ⟨rfl, rfl⟩ (by kernel_rfl) rfl
    (fun f fn hf hfn => by
      obtain rfl : f = 4 := Option.some.inj ((show Tryz.prog.funcNamed "junctionbox/junctionboxlaw08.TrieNone" = some 4 by kernel_rfl).symm.trans hf) |>.symm
      obtain rfl : fn = Tryz.f4 := (Option.some.inj (Tryz.func4.symm.trans hfn)).symm
      exact ⟨by kernel_rfl, fun j t ht => by
        rw [Tryz.params4] at ht
        have hm : t ∈ [37, 39, 3] := by simpa using Array.mem_of_getElem? ht
        have hall : ([37, 39, 3].all fun u => !Tryz.prog.wantsStandIn u) = true := by kernel_rfl
        exact (show Tryz.prog.wantsStandIn t = false by simpa using List.all_eq_true.1 hall t hm)⟩)
    (by kernel_rfl)
end Go.Abs.D1
namespace Go.Proofs.YtjimckjdkgbojaaGreatDoor
theorem trieNone_holds : Rows.TrieNoneCardSaid := Go.Abs.D1.card4
end Go.Proofs.YtjimckjdkgbojaaGreatDoor
