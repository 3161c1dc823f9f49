/- What is proved: the tied card of the law FibNone (what is told without an arena and without a fib): it gives true for every input, and its arguments read behind the call as they read before. Condition: the package variables prefix.widths and bits.deBruijn32tab lie at the start as the text of the program lays them (the card ties it). -/
import Derived.Test.YtjimckjdkgbojaaGreatDoorFb4
import Derived.Test.YtjimckjdkgbojaaGreatDoorDt6
import Derived.Test.YtjimckjdkgbojaaGreatDoorCards
import Derived.Test.YtjimckjdkgbojaaGreatDoorTie
import Derived.SevenTiedAt
import Derived.LaidHandle
namespace Go.Abs.D1
open Go.Proofs
set_option maxRecDepth 100000
set_option linter.all false
theorem lifted6 (os : Os) (started : os.Started) (H : Type) (enc : TypeId × Value → H) :
    ReturnsInHanded {} Tryz.checked os 6 .any (fun w args => (YtjimckjdkgbojaaGreatDoor.Rows.fibNoneSpec.pre enc Tryz.prog Tryz.f6 [] false w args ∧ laidMetH Tryz.prog lay w) ∧ sizedMet enc Tryz.prog Tryz.f6 (OpenSpec.ofChange YtjimckjdkgbojaaGreatDoor.Rows.fibNoneSpec) false w args) (YtjimckjdkgbojaaGreatDoor.Rows.fibNoneSpec.post enc Tryz.prog Tryz.f6 false true false false) :=
  law_lifted_laid (C := Tryz.checked) (d := 12) own started base okL6 laid (by kernel_rfl) Tryz.func6 rfl
    (fun H ds hd => by
      have hd : ds.length = 3 := hd
      match ds, hd with
      | [_, _, _], _ => exact ⟨rfl, rfl, rfl⟩) (by kernel_rfl)
    lay S S_mono start
    (ChangeSpec.witness_shaped (enc := enc) (C := Tryz.checked) (os := os) (X := fun w _ => laidMetH Tryz.prog lay w) false (World.doorLaid Tryz.prog 400 os) #[.agg #[.int .i64 0, .int .u8 0, .int .u8 0, .int .u8 0, .int .u8 0, .int .u8 0, .int .u8 0, .int .u8 0, .int .u8 0, .int .u8 0, .int .u8 0, .int .u8 0, .int .u8 0, .int .u8 0, .int .u8 0, .int .u8 0, .int .u8 0, .int .i64 0], .agg #[.int .i64 0, .int .u8 0, .int .u8 0, .int .u8 0, .int .u8 0, .int .u8 0, .int .u8 0, .int .u8 0, .int .u8 0, .int .u8 0, .int .u8 0, .int .u8 0, .int .u8 0, .int .u8 0, .int .u8 0, .int .u8 0, .int .u8 0], .int .u64 0] 8 rfl (World.shaped_of_RefB (by kernel_rfl) (by kernel_rfl)) (by kernel_rfl) (by kernel_rfl) (by kernel_rfl) (door_met os _))
    (fun h xs hro hk hl hS => by
      replace hl : LiesAll Tryz.prog h 12 [35, 33, 68] xs := hl
      obtain ⟨v, vs, rfl, h1, h2⟩ := liesAll_cons hl
      obtain ⟨v2, vs2, rfl, h3, h4⟩ := liesAll_cons h2
      obtain ⟨v3, vs3, rfl, h5, h6⟩ := liesAll_cons h4
      obtain rfl := liesAll_nil h6
      obtain ⟨cs, rfl, g1⟩ := liesV_agg (by kernel_rfl) h1
      obtain ⟨ds, rfl, g2⟩ := liesV_agg (by kernel_rfl) h3
      obtain ⟨n, rfl, -, -⟩ := liesV_int (k := .u64) (by kernel_rfl) h5
      obtain ⟨x, rfl, hx⟩ := lies35_12 h cs g1
      obtain ⟨y, rfl, hy⟩ := lies33_12 h ds g2
      obtain ⟨a0, a1, a2, a3, a4, a5, a6, a7, a8, a9, a10, a11, a12, a13, a14, a15, a16, a17, ha⟩ := pref_is hx
      obtain ⟨b0, b1, b2, b3, b4, b5, b6, b7, b8, b9, b10, b11, b12, b13, b14, b15, b16, hb⟩ := addr_is hy
      rw [ha, hb]
      obtain ⟨k, e⟩ := run6p hS.1 hS.2 (by omega) a0 a1 a2 a3 a4 a5 a6 a7 a8 a9 a10 a11 a12 a13 a14 a15 a16 a17 b0 b1 b2 b3 b4 b5 b6 b7 b8 b9 b10 b11 b12 b13 b14 b15 b16 n
      exact ⟨3000, k, e⟩
)
theorem over6 : YtjimckjdkgbojaaGreatDoor.Rows.fibNoneRow.holds YtjimckjdkgbojaaGreatDoor.Tryz.pinned (OpenSpec.ofChange YtjimckjdkgbojaaGreatDoor.Rows.fibNoneSpec) :=
  OpenClaim.holds_of_wide 6 Tryz.f6 rfl rfl rfl rfl rfl rfl rfl ⟨rfl, rfl, rfl, rfl, rfl⟩ rfl rfl rfl rfl rfl (by kernel_rfl) Tryz.func6 (by kernel_rfl)
    (of_decide_eq_true (by kernel_rfl)) (by unfold Func.isWrapper; first | (rw [if_pos (by decide +kernel)]; kernel_rfl) | (rw [if_neg (by decide +kernel)]; exact ⟨rfl, rfl⟩))
    (fun os started H enc _ => lifted6 os started H enc)
theorem card6 : YtjimckjdkgbojaaGreatDoor.Rows.FibNoneCardSaid :=
  Claim7.holds_tied_plain_at .later [] [.data, .data] true (true, "e5c20abcf290c1167f9a8bcc850353f5fd149451dab35d78c07328d38367f74e") false
    over6 (fun _ h => by cases h) (by kernel_rfl) (fun _ h => by cases h) YtjimckjdkgbojaaGreatDoor.fibNone_row_tie rfl ⟨rfl, rfl⟩ (by kernel_rfl) rfl
    (fun f fn hf hfn => by
      obtain rfl : f = 6 := Option.some.inj ((show Tryz.prog.funcNamed "junctionbox/junctionboxlaw10.FibNone" = some 6 by kernel_rfl).symm.trans hf) |>.symm
      obtain rfl : fn = Tryz.f6 := (Option.some.inj (Tryz.func6.symm.trans hfn)).symm
      exact ⟨by kernel_rfl, fun j t ht => by
        rw [Tryz.params6] at ht
        have hm : t ∈ [35, 33, 68] := by simpa using Array.mem_of_getElem? ht
        have hall : ([35, 33, 68].all fun u => !Tryz.prog.wantsStandIn u) = true := by kernel_rfl
        exact (show Tryz.prog.wantsStandIn t = false by simpa using List.all_eq_true.1 hall t hm)⟩)
    (by kernel_rfl)
end Go.Abs.D1
namespace Go.Proofs.YtjimckjdkgbojaaGreatDoor
theorem fibNone_holds : Rows.FibNoneCardSaid := Go.Abs.D1.card6
end Go.Proofs.YtjimckjdkgbojaaGreatDoor
