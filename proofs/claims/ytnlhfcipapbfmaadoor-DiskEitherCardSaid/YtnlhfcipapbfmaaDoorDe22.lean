/- The document's disk: Write. -/
import Derived.Test.YtnlhfcipapbfmaaDoorDe21
namespace Go.Abs.B1d
open Go.Proofs
set_option maxRecDepth 10000
set_option maxHeartbeats 4000000
set_option linter.all false
theorem downL_none {f : Nat → Bool} : ∀ (rs : List T62) (P : List (List Value)) (i : Nat), (∀ j, i ≤ j → f j = false) → downL f P rs i = P ∧ restL f rs i = rs
  | [], P, i, h => ⟨rfl, rfl⟩
  | r :: rs, P, i, h => by
    obtain ⟨h1, h2⟩ := downL_none rs P (i + 1) fun j hj => h j (by omega)
    rw [downL, restL, h i (Nat.le_refl _)]
    simp only [Bool.false_eq_true, if_false]
    exact ⟨h1, by rw [h2]⟩
theorem putS_full {E : DV} {i : Int} {x : List Value} (h : idxF i E.2.1 0 = -1) (h8 : E.2.1.length = 8) : putS E i x = ((downD E [true]).1, (downD E [true]).2.1 ++ [(i, x)], E.2.2) := by
  obtain ⟨P, R, t⟩ := E
  cases R with
  | nil => simp at h8
  | cons r rs =>
    obtain ⟨h1, h2⟩ := downL_none (f := fun i => ([true][i]?).getD false) rs (P.set r.1.toNat r.2) 1 (fun j hj => by
      cases j with
      | zero => omega
      | succ j => rfl)
    unfold putS downD
    rw [if_neg (by simp only [] at h ⊢; rw [h]; decide)]
    simp only [downL, restL]
    simp only [List.length_cons] at h8
    simp only [List.getElem?_cons_zero, Option.getD_some, if_true, h1, h2]
    rw [if_pos (by omega)]
theorem putS_add {E : DV} {i : Int} {x : List Value} (h : idxF i E.2.1 0 = -1) (h8 : E.2.1.length ≠ 8) : putS E i x = (E.1, E.2.1 ++ [(i, x)], E.2.2) := by
  obtain ⟨P, R, t⟩ := E
  unfold putS
  rw [if_neg (by simp only [] at h ⊢; rw [h]; decide)]
  cases R with
  | nil => rfl
  | cons r rs =>
    simp only [List.length_cons] at h8 ⊢
    rw [if_neg (by omega)]
theorem ownLit {h : Hp} {c : Nat} (hg : h.get c = some (.cells #[.bool true] true)) (hc : c < h.size) : OwnC Rp.bool h (.slice (some ⟨c, 0, none⟩) 1 1) (some c) [true] :=
  .inr ⟨c, 1, #[.bool true], rfl, rfl, .inr ⟨by decide, by decide⟩, by decide, by decide, hc, hg, fun w hw => by simp at hw; subst hw; exact flatB_bool, by decide, by
    rw [show (#[Value.bool true].toList.take ([true].length * Rp.bool.len)) = [.bool true] from rfl]
    exact rows.one_row (e := Rp.bool) rfl⟩
end Go.Abs.B1d
