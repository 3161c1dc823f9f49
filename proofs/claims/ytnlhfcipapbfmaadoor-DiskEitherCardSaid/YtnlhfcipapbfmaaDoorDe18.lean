/- The document's disk: rows go down. -/
import Derived.Test.YtnlhfcipapbfmaaDoorDe17
namespace Go.Abs.B1d
open Go.Proofs
set_option maxRecDepth 10000
set_option maxHeartbeats 4000000
set_option linter.all false
/-- The rows that stay. -/
def restL (keep : Nat → Bool) : List T62 → Nat → List T62
  | [], _ => []
  | r :: rs, i => if keep i = true then restL keep rs (i + 1) else r :: restL keep rs (i + 1)
def downD (D : DV) (ks : List Bool) : DV := (downL (fun i => (ks[i]?).getD false) D.1 D.2.1 0, restL (fun i => (ks[i]?).getD false) D.2.1 0, D.2.2)
theorem flatRow : FlatE R62 := flatE_pair flatE_int flatE_flat
theorem flatBlk : FlatE R29 := flatE_flat
theorem tRowMR : tRow Tryd.prog 67 = some (65, 72, zRow) := tRowx67
theorem textMR : rowOrText (Tryd.prog.underlying 67) = true := by kernel_rfl
theorem textPl : rowOrText (Tryd.prog.underlying 66) = true := by kernel_rfl
abbrev fresh (h k : Hp) : Nat → Prop := fun c => h.size ≤ c ∧ c < k.size
section
variable {I : Intr} {N : Nat} {k : Hp} {S : Nat → Prop} {b : Nat} {D : DV} {p : Nat → Prop}
theorem ownFr {α : Type} {e : Rp α} {k : Hp} {v : Value} {q : Option Nat} {xs : List α} (r : OwnC e k v q xs) {p : Nat → Prop} (h : ∀ c, q = some c → p c) : (Rp.slice e).r false p k [v] xs :=
  (Rp.slice e).mono r.rp h (by simp) (Fr.refl _)
end
end Go.Abs.B1d
