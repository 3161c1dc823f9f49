/- The document's disk: Sync, Read. -/
import Derived.Test.YtnlhfcipapbfmaaDoorDe19
namespace Go.Abs.B1d
open Go.Proofs
set_option maxRecDepth 10000
set_option maxHeartbeats 4000000
set_option linter.all false
theorem downL_congr {f g : Nat → Bool} : ∀ (rs : List T62) (P : List (List Value)) (i : Nat), (∀ j, i ≤ j → j < i + rs.length → f j = g j) → downL f P rs i = downL g P rs i
  | [], P, i, h => rfl
  | r :: rs, P, i, h => by
    rw [downL, downL, h i (Nat.le_refl _) (by simp)]
    exact downL_congr rs _ (i + 1) fun j h1 h2 => h j (by omega) (by simp only [List.length_cons]; omega)
theorem restL_all {f : Nat → Bool} : ∀ (rs : List T62) (i : Nat), (∀ j, i ≤ j → j < i + rs.length → f j = true) → restL f rs i = []
  | [], i, h => rfl
  | r :: rs, i, h => by
    rw [restL, if_pos (h i (Nat.le_refl _) (by simp))]
    exact restL_all rs (i + 1) fun j h1 h2 => h j (by omega) (by simp only [List.length_cons]; omega)
theorem downD_all (E : DV) : downD E (List.replicate E.2.1.length true) = emptyS E (fun _ => true) := by
  unfold downD emptyS
  rw [downL_congr (g := fun _ => true) E.2.1 E.1 0 (fun j _ h => by rw [List.getElem?_replicate, if_pos (by omega)]; rfl), restL_all E.2.1 0 (fun j _ h => by rw [List.getElem?_replicate, if_pos (by omega)]; rfl)]
end Go.Abs.B1d
