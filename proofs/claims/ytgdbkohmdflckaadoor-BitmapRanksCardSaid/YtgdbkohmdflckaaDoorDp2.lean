/- The plain law of ranks. -/
import Derived.Test.YtgdbkohmdflckaaDoorDp1
namespace Go.Abs.A1d
set_option linter.all false
theorem bits_sorted (n : Nat) : (bitsN n).Pairwise (· < ·) := List.Pairwise.filter _ List.pairwise_lt_range
theorem mem_bits {n j : Nat} (hj : j < 32) : (j ∈ bitsN n) ↔ n.testBit j = true := by
  unfold bitsN
  rw [List.mem_filter, List.mem_range]
  exact ⟨fun h => h.2, fun h => ⟨hj, h⟩⟩
theorem bits_lt {n i x : Nat} (hx : (bitsN n)[i]? = some x) : x < 32 ∧ n.testBit x = true := by
  have := List.mem_of_getElem? hx
  unfold bitsN at this
  rw [List.mem_filter, List.mem_range] at this
  exact this
theorem bits_less {n i j x y : Nat} (hx : (bitsN n)[i]? = some x) (hy : (bitsN n)[j]? = some y) (h : i < j) : x < y := by
  obtain ⟨h1, rfl⟩ := List.getElem?_eq_some_iff.1 hx
  obtain ⟨h2, rfl⟩ := List.getElem?_eq_some_iff.1 hy
  exact List.pairwise_iff_getElem.1 (bits_sorted n) i j h1 h2 h
theorem bits_rank {n i x : Nat} (hx : (bitsN n)[i]? = some x) : popN n x = i := by
  obtain ⟨h1, h2⟩ := bits_lt hx
  have hs : List.range 32 = List.range x ++ x :: List.range' (x + 1) (31 - x) := by
    rw [List.range_eq_range', List.range_eq_range', show 32 = x + ((31 - x) + 1) by omega, ← List.range'_append_1, List.range'_succ, Nat.zero_add]
  have hl : bitsN n = (List.range x).filter n.testBit ++ x :: (List.range' (x + 1) (31 - x)).filter n.testBit := by
    unfold bitsN
    rw [hs, List.filter_append, List.filter_cons_of_pos h2]
  have hp : popN n x = ((List.range x).filter n.testBit).length := by unfold popN; rw [List.countP_eq_length_filter]
  have hy : (bitsN n)[popN n x]? = some x := by rw [hl, hp]; simp
  rcases Nat.lt_trichotomy (popN n x) i with h | h | h
  · exact absurd (bits_less hy hx h) (Nat.lt_irrefl _)
  · exact h
  · exact absurd (bits_less hx hy h) (Nat.lt_irrefl _)
/-- A set of the first ones. -/
def Back (n i B : Nat) : Prop := B < 2 ^ 32 ∧ ∀ j, j < 32 → B.testBit j = decide (j ∈ (bitsN n).take i)
theorem back_zero (n : Nat) : Back n 0 0 := ⟨by decide, fun j _ => by simp⟩
theorem back_step {n i B x : Nat} (h : Back n i B) (hx : (bitsN n)[i]? = some x) : Back n (i + 1) (setN B x true) := by
  obtain ⟨h1, h2⟩ := bits_lt hx
  refine ⟨setN_lt h.1 h1, fun j hj => ?_⟩
  rw [setN_bit h.1 h1 hj, List.take_add_one, hx, h.2 j hj]
  by_cases e : j = x
  · simp [e]
  · simp [e]
theorem back_all {n B : Nat} (hn : n < 2 ^ 32) (h : Back n (bitsN n).length B) : B = n := by
  refine eq_of_bits h.1 hn fun j hj => ?_
  rw [h.2 j hj, List.take_length]
  have := mem_bits (n := n) hj
  cases hb : n.testBit j
  · rw [hb] at this; simpa using this
  · rw [hb] at this; simpa using this
theorem set_set {n b : Nat} {is is' : Bool} (hn : n < 2 ^ 32) (hb : b < 32) : setN (setN n b is) b is' = setN n b is' := by
  refine eq_of_bits (setN_lt (setN_lt hn hb) hb) (setN_lt hn hb) fun j hj => ?_
  rw [setN_bit (setN_lt hn hb) hb hj, setN_bit hn hb hj, setN_bit hn hb hj]
  split <;> rfl
theorem has_set {n b : Nat} {is : Bool} (hn : n < 2 ^ 32) (hb : b < 32) : hasF (setN n b is : Nat) (b : Int) = is := by
  rw [hasF_bit _ _ hb, setN_bit hn hb hb, if_pos rfl]
end Go.Abs.A1d
