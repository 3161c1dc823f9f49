/- What is proved: the law LeaseOne (at no time does server 1 hold the lease while server 2 is free) gives true for every input, and its arguments read behind the call as they read before. No condition beside the row's own. -/
import Derived.Test.YtgdbkohmdflckaaLa12
import Derived.Test.YtgdbkohmdflckaaRows
namespace Go.Abs.A1
open Go.Proofs
set_option maxRecDepth 100000
set_option linter.all false
theorem lifted7 (os : Os) (started : os.Started) (H : Type) (enc : TypeId × Value → H) :
    ReturnsInHanded {} Try.checked os 7 .any (Ytgdbkohmdflckaa.Rows.leaseOneSpec.pre6 enc Try.prog Try.f7 Ytgdbkohmdflckaa.Rows.leaseOneRow.domain false) (Ytgdbkohmdflckaa.Rows.leaseOneSpec.post enc Try.prog Try.f7 false true false false) :=
  law_lifted (C := Try.checked) (d := 4) own started base ok3 laid (by kernel_rfl) Try.func7 rfl
    (fun H ds hd => by
      have hd : ds.length = 3 := hd
      match ds, hd with
      | [_, _, _], _ => exact ⟨rfl, rfl, rfl⟩) (by kernel_rfl)
    (ChangeSpec.witness6 (enc := enc) (C := Try.checked) false ⟨#[], #[.int .u64 0, .int .u64 0, .slice none 0 0], []⟩ 8 (by kernel_rfl) (by kernel_rfl) (by kernel_rfl) (by kernel_rfl))
    (fun h xs hro hk hl => by
      replace hl : LiesAll Try.prog h 4 [31, 31, 40] xs := hl
      obtain ⟨v, vs, rfl, h1, h2⟩ := liesAll_cons hl
      obtain ⟨v2, vs2, rfl, h3, h4⟩ := liesAll_cons h2
      obtain ⟨v3, vs3, rfl, h5, h6⟩ := liesAll_cons h4
      obtain rfl := liesAll_nil h6
      obtain ⟨a, rfl, ha⟩ := liesV_int Try.underlying31 h1
      obtain ⟨b, rfl, hb⟩ := liesV_int Try.underlying31 h3
      obtain ⟨o, len, cap, L, rfl, q1, q2, q3, q4⟩ := lies40 h5
      exact ⟨_, run7 a b (u64_bounds ha).1 (u64_bounds hb).1 h (by omega) o len cap L q1 q2 q3 q4⟩)
theorem over7 : Ytgdbkohmdflckaa.Rows.leaseOneRow.holds Ytgdbkohmdflckaa.Try.pinned (OpenSpec.ofChange Ytgdbkohmdflckaa.Rows.leaseOneSpec) :=
  OpenClaim.holds_of_wide 7 Try.f7 rfl rfl rfl rfl rfl rfl rfl ⟨rfl, rfl, rfl, rfl, rfl⟩ rfl rfl rfl rfl rfl (by kernel_rfl) Try.func7 (by kernel_rfl)
    (of_decide_eq_true (by kernel_rfl)) (by unfold Func.isWrapper; first | (rw [if_pos (by decide +kernel)]; kernel_rfl) | (rw [if_neg (by decide +kernel)]; exact ⟨rfl, rfl⟩))
    (fun os started H enc _ => lifted7 os started H enc)
end Go.Abs.A1
namespace Go.Proofs.Ytgdbkohmdflckaa
theorem leaseOne_holds : Rows.LeaseOneSaid := Go.Abs.A1.over7
end Go.Proofs.Ytgdbkohmdflckaa
