/- The document's disk: what a sector shows; a new one; yes, so often. -/
import Derived.Test.YtnlhfcipapbfmaaDoorDe16
namespace Go.Abs.B1d
open Go.Proofs
set_option maxRecDepth 10000
set_option maxHeartbeats 4000000
set_option linter.all false
def showF (i : Int) : List Value → List T62 → List Value
  | cur, [] => cur
  | cur, r :: rs => showF i (if r.1 = i then r.2 else cur) rs
theorem showF_none (i : Int) : ∀ (rs : List T62) (cur : List Value), (∀ x ∈ rs, x.1 ≠ i) → showF i cur rs = cur
  | [], cur, _ => rfl
  | r :: rs, cur, h => by rw [showF, if_neg (h r List.mem_cons_self)]; exact showF_none i rs cur fun x hx => h x (List.mem_cons_of_mem _ hx)
theorem showF_one (i : Int) : ∀ (rs : List T62) (cur : List Value) (j : Nat) (y : T62), (rs.map (·.1)).Nodup → rs[j]? = some y → y.1 = i → showF i cur rs = y.2
  | [], cur, j, y, _, h, _ => by simp at h
  | r :: rs, cur, 0, y, hn, h, hy => by
    simp at h; subst h
    rw [List.map_cons, List.nodup_cons] at hn
    rw [showF, if_pos hy]
    exact showF_none i rs _ fun x hx e => hn.1 (by rw [hy, ← e]; exact List.mem_map_of_mem hx)
  | r :: rs, cur, j + 1, y, hn, h, hy => by
    rw [List.map_cons, List.nodup_cons] at hn
    have h' : rs[j]? = some y := by simpa using h
    rw [showF, if_neg (fun e => hn.1 (by rw [e, ← hy]; exact List.mem_map_of_mem (List.mem_of_getElem? h')))]
    exact showF_one i rs cur j y hn.2 h' hy
theorem showF_eq {D : DV} (h : WF D) {n : Nat} {y : List Value} (hy : D.1[n]? = some y) : showF n y D.2.1 = showS D n := by
  unfold showS
  rcases idxF_range (n : Int) D.2.1 0 with ⟨q, hq⟩ | ⟨j, x, q1, q2, q3, -⟩
  · rw [q, if_neg (by omega), showF_none _ _ _ hq, Int.toNat_natCast, hy]; rfl
  · rw [Nat.zero_add] at q3
    rw [q3, if_pos (by omega), Int.toNat_natCast, q1, showF_one _ _ _ j x h.nod q1 q2]; rfl
section
variable {I : Intr} {N : Nat} {k : Hp} {S : Nat → Prop} {b : Nat} {D : DV} {p : Nat → Prop}
end
end Go.Abs.B1d
