/- What a play of deeds answers. -/
import Derived.Test.YtnlhfcipapbfmaaDoorDe28
namespace Go.Abs.B1d
open Go.Proofs
set_option maxRecDepth 10000
set_option maxHeartbeats 4000000
set_option linter.all false
theorem putS_len (D : DV) (i : Int) (x : List Value) : (putS D i x).1.length = D.1.length := by
  unfold putS
  split
  · rfl
  · split
    · split
      · simp
      · rfl
    · rfl
theorem deedS_len (D : DV) (x : T42) : (deedS D x).1.1.length = D.1.length := by
  have h1 := fun i w => (actS_keeps D i w).1
  have hs : (syncS D).1.1.length = D.1.length := by
    unfold syncS
    split
    · simp only [emptyS, downL_len, h1]
    · rw [h1]
  have hw : ∀ i y, (writeS D i y).1.1.length = D.1.length := fun i y => by
    unfold writeS
    split
    · simp only [putS_len, h1]
    · rw [h1]
  unfold deedS
  split
  · simp only [readS, h1]
  · split
    · exact hs
    · split
      · unfold armS; split <;> rfl
      · split
        · unfold failS; split <;> rfl
        · split
          · simp only [crashS, downL_len]
          · exact hw _ _
theorem jDk : IDk I0 := by constructor <;> rfl
theorem jLw : ILw I0 := by constructor <;> rfl
end Go.Abs.B1d
