/- The plain law of flaws and fuses. -/
import Derived.Test.YtnlhfcipapbfmaaDoorDe36
namespace Go.Abs.B1d
open Go.Proofs
set_option maxRecDepth 10000
set_option maxHeartbeats 4000000
set_option linter.all false
/-- A live disk of 14 sectors without a flaw, its fuse f. -/
structure Lv (D : DV) (f : Int) : Prop where
  dead : D.2.2.2.2.1 = false
  fuse : D.2.2.1 = f
  flaw : D.2.2.2.1 = -1
  len : D.1.length = 14
variable {D : DV} {f : Int} {i : Nat} {x : List Value}
theorem dn_small {f : Int} (h : 0 < f) (h2 : f < 100) : dn f = f - 1 := by
  obtain ⟨m, hm⟩ : ∃ m : Nat, f - 1 = (m : Int) := ⟨(f - 1).toNat, by omega⟩
  unfold dn
  rw [if_pos (by omega), hm, wrap_small m (by omega)]
theorem dn_neg : dn (-1) = -1 := by unfold dn; rw [if_neg (by decide)]
theorem Lv.act (h : Lv D f) (hf : f ≠ 0) (hi : i < 14) (w : Bool) : actS D i w = ((D.1, D.2.1, if w = true then dn f else f, -1, false, IntKind.i64.wrap (D.2.2.2.2.2 + 1)), 0) := by
  unfold actS
  rw [h.dead, h.fuse, h.flaw, h.len, dn_neg]
  simp only [Bool.false_eq_true, if_false]
  rw [if_neg (by omega), if_neg (by simp [hf]), if_neg (by decide)]
theorem Lv.write (h : Lv D f) (hf : f ≠ 0) (hi : i < 14) : (writeS D i x).2 = 0 ∧ Lv (writeS D i x).1 (dn f) := by
  unfold writeS
  rw [h.act hf hi true]
  simp only [if_true]
  refine ⟨trivial, ?_⟩
  have hp : ∀ E : DV, (putS E i x).2.2 = E.2.2 := fun E => by
    unfold putS
    split
    · rfl
    · split
      · split <;> rfl
      · rfl
  refine ⟨by rw [hp], by rw [hp], by rw [hp], by rw [putS_len]; exact h.len⟩
theorem Lv.read (h : Lv D f) (hf : f ≠ 0) (hi : i < 14) : (readS D i).2.2 = 0 ∧ Lv (readS D i).1 f := by
  unfold readS
  rw [h.act hf hi false]
  exact ⟨rfl, rfl, rfl, rfl, h.len⟩
theorem Lv.burnt (h : Lv D 0) : (syncS D).2 = 9 ∧ (syncS D).1.2.2.2.2.1 = true ∧ (syncS D).1.1.length = 14 := by
  have ha : actS D 0 true = ((D.1, D.2.1, D.2.2.1, dn D.2.2.2.1, true, D.2.2.2.2.2), 9) := by
    unfold actS
    rw [h.dead, h.fuse, h.len]
    simp
  unfold syncS
  rw [ha]
  exact ⟨rfl, rfl, h.len⟩
/-- A flaw: what fails changes nothing but the flaw. -/
theorem flawed (h : Lv D (-1)) (i : Int) (hi : 0 ≤ i ∧ i < 14) (w : Bool) : actS (D.1, D.2.1, D.2.2.1, 0, D.2.2.2.2) i w = (D, 8) := by
  obtain ⟨P, R, fu, fl, de, op⟩ := D
  obtain ⟨h1, h2, h3, h4⟩ := h
  simp only at h1 h2 h3 h4
  subst h1 h2 h3
  unfold actS dn
  simp [h4]
  have : IntKind.i64.wrap (-1) = -1 := by decide
  rw [this]
  split <;> first | rfl | omega
theorem dead_act (h : D.2.2.2.2.1 = true) (i : Int) (w : Bool) : actS D i w = (D, 9) := by unfold actS; rw [if_pos h]
theorem dead_write (h : D.2.2.2.2.1 = true) (i : Int) : writeS D i x = (D, 9) := by unfold writeS; rw [dead_act h]; rfl
theorem dead_read (h : D.2.2.2.2.1 = true) (i : Int) : readS D i = (D, zeroB, 9) := by unfold readS; rw [dead_act h]; rfl
theorem dead_arm (h : D.2.2.2.2.1 = true) (n : Int) : armS D n = (D, 9) := by unfold armS; rw [if_pos h]
theorem dead_fail (h : D.2.2.2.2.1 = true) (n : Int) : failS D n = (D, 9) := by unfold failS; rw [if_pos h]
theorem crash_live {ks : List Bool} (h : D.1.length = 14) : Lv (crashS D ks) (-1) := ⟨rfl, rfl, rfl, by simp only [crashS, downL_len]; exact h⟩
end Go.Abs.B1d
