/- Sets of 32 bits: the plain law. -/
import Derived.Test.YtgdbkohmdflckaaDoorAbsD
namespace Go.Abs.A1d
set_option linter.all false
/-- Is bit b of s set? -/
def hasF (s b : Int) : Bool := decide (0 ≤ b) && decide (b < 32) && decide (s / 2 ^ b.toNat % 2 = 1)
def setN (n b : Nat) (is : Bool) : Nat := if is = true then n ||| 2 ^ b else (BitVec.ofNat 32 n &&& ~~~ BitVec.ofNat 32 (2 ^ b)).toNat
def setF (s b : Int) (is : Bool) : Int := if b < 0 ∨ 31 < b then s else (setN s.toNat b.toNat is : Nat)
def popN (n k : Nat) : Nat := (List.range k).countP n.testBit
def bitsN (n : Nat) : List Nat := (List.range 32).filter n.testBit
def ctzN (n : Nat) : Nat := ((List.range 32).find? n.testBit).getD 32
def rankF (s b : Int) : Int := (popN s.toNat (min b.toNat 32) : Nat)
theorem hasF_bit (n i : Nat) (hi : i < 32) : hasF n i = n.testBit i := by
  have h1 : (0 : Int) ≤ i := by omega
  have h2 : (i : Int) < 32 := by omega
  simp only [hasF, h1, h2, decide_true, Bool.true_and, Int.toNat_natCast, Nat.testBit_eq_decide_div_mod_eq]
  congr 1
  have : ((n : Int) / 2 ^ i % 2 = 1) ↔ ((n / 2 ^ i % 2 : Nat) : Int) = (1 : Nat) := by simp
  rw [this, Int.ofNat_inj]
theorem setN_lt {n b : Nat} {is : Bool} (hn : n < 2 ^ 32) (hb : b < 32) : setN n b is < 2 ^ 32 := by
  unfold setN
  split
  · exact Nat.or_lt_two_pow hn (Nat.pow_lt_pow_right (by decide) hb)
  · exact BitVec.isLt _
theorem setN_bit {n b i : Nat} {is : Bool} (hn : n < 2 ^ 32) (hb : b < 32) (hi : i < 32) : (setN n b is).testBit i = if i = b then is else n.testBit i := by
  unfold setN
  split
  · rename_i h; subst h
    rw [Nat.testBit_or, Nat.testBit_two_pow]
    by_cases e : i = b
    · simp [e]
    · simp [e, Ne.symm e]
  · rename_i h
    have h : is = false := by simpa using h
    subst h
    rw [BitVec.testBit_toNat, BitVec.getLsbD_and, BitVec.getLsbD_not, BitVec.getLsbD_ofNat, BitVec.getLsbD_ofNat, Nat.testBit_two_pow]
    by_cases e : i = b
    · subst e; simp [hi]
    · simp [hi, e, Ne.symm e]
theorem eq_of_bits {m n : Nat} (hm : m < 2 ^ 32) (hn : n < 2 ^ 32) (h : ∀ i, i < 32 → m.testBit i = n.testBit i) : m = n := by
  apply Nat.eq_of_testBit_eq
  intro i
  by_cases hi : i < 32
  · exact h i hi
  · have e : (2 : Nat) ^ 32 ≤ 2 ^ i := Nat.pow_le_pow_right (by decide) (by omega)
    rw [Nat.testBit_lt_two_pow (Nat.lt_of_lt_of_le hm e), Nat.testBit_lt_two_pow (Nat.lt_of_lt_of_le hn e)]
theorem ctz_spec {n : Nat} (h0 : n ≠ 0) (hn : n < 2 ^ 32) : ctzN n < 32 ∧ n.testBit (ctzN n) = true ∧ ∀ j, j < ctzN n → n.testBit j = false := by
  unfold ctzN
  cases hf : (List.range 32).find? n.testBit with
  | none =>
    rw [List.find?_eq_none] at hf
    refine absurd (eq_of_bits hn (show 0 < 2 ^ 32 by decide) fun i hi => ?_) h0
    have := hf i (List.mem_range.2 hi)
    simpa using this
  | some c =>
    rw [List.find?_range_eq_some] at hf
    simp only [Option.getD_some]
    exact ⟨hf.2.1 |> List.mem_range.1, hf.1, fun j hj => by simpa using hf.2.2 j hj⟩
theorem bitsN_zero : bitsN 0 = [] := by decide
theorem bitsN_step {n : Nat} (h0 : n ≠ 0) (hn : n < 2 ^ 32) : bitsN n = ctzN n :: bitsN (setN n (ctzN n) false) := by
  obtain ⟨h1, h2, h3⟩ := ctz_spec h0 hn
  generalize ctzN n = c at *
  have hs : List.range 32 = List.range c ++ c :: List.range' (c + 1) (31 - c) := by
    rw [List.range_eq_range', List.range_eq_range', show 32 = c + ((31 - c) + 1) by omega, ← List.range'_append_1, List.range'_succ, Nat.zero_add]
  unfold bitsN
  have e1 : (List.range c).filter n.testBit = [] := by
    rw [List.filter_eq_nil_iff]; intro j hj; simp [h3 j (List.mem_range.1 hj)]
  have e2 : (List.range c).filter (setN n c false).testBit = [] := by
    rw [List.filter_eq_nil_iff]; intro j hj
    have := List.mem_range.1 hj
    rw [setN_bit hn h1 (by omega), if_neg (by omega)]
    simp [h3 j this]
  have e3 : (setN n c false).testBit c = false := by rw [setN_bit hn h1 h1, if_pos rfl]
  rw [hs, List.filter_append, List.filter_append, e1, e2, List.nil_append, List.nil_append, List.filter_cons_of_pos h2, List.filter_cons_of_neg (by simp [e3])]
  congr 1
  apply List.filter_congr
  intro j hj
  rw [List.mem_range'_1] at hj
  rw [setN_bit hn h1 (by omega), if_neg (by omega)]
/-! ### How many -/
theorem popN_add (n a b : Nat) : popN n (a + b) = popN n a + popN (n / 2 ^ a) b := by
  unfold popN
  rw [List.range_add, List.countP_append, List.countP_map]
  congr 1
  apply List.countP_congr
  intro i hi
  simp only [Function.comp, Nat.testBit_div_two_pow, Nat.add_comm]
theorem popN_mod (n b k : Nat) (hb : b ≤ k) : popN (n % 2 ^ b) k = popN n b := by
  obtain ⟨c, rfl⟩ : ∃ c, k = b + c := ⟨k - b, by omega⟩
  rw [popN_add, Nat.div_eq_of_lt (Nat.mod_lt _ (Nat.pow_pos (by decide)))]
  have e : popN 0 c = 0 := by simp [popN]
  rw [e, Nat.add_zero]
  unfold popN
  apply List.countP_congr
  intro i hi
  have := List.mem_range.1 hi
  simp [Nat.testBit_mod_two_pow, this]
theorem popN_bytes (n : Nat) (hn : n < 2 ^ 32) : popN n 32 = popN (n / 2 ^ 24) 8 + popN (n / 2 ^ 16 % 2 ^ 8) 8 + popN (n / 2 ^ 8 % 2 ^ 8) 8 + popN (n % 2 ^ 8) 8 := by
  rw [popN_mod _ 8 8 (Nat.le_refl _), popN_mod _ 8 8 (Nat.le_refl _), popN_mod _ 8 8 (Nat.le_refl _), show (32 : Nat) = 8 + (8 + (8 + 8)) from rfl, popN_add, popN_add, popN_add, Nat.div_div_eq_div_mul, Nat.div_div_eq_div_mul]
  simp only [← Nat.pow_add, Nat.reduceAdd]
  omega
theorem popN_le (n k : Nat) : popN n k ≤ k := by
  have := List.countP_le_length (p := n.testBit) (l := List.range k)
  rw [List.length_range] at this
  exact this
theorem popN_succ (n k : Nat) : popN n (k + 1) = popN n k + (if n.testBit k = true then 1 else 0) := by
  unfold popN
  rw [List.range_succ, List.countP_append, List.countP_singleton]
theorem bitsN_len (n : Nat) : (bitsN n).length = popN n 32 := by
  unfold bitsN popN
  rw [List.countP_eq_length_filter]

/-! ### The lowest one -/
theorem low_bit {n : Nat} (h0 : n ≠ 0) (hn : n < 2 ^ 32) : BitVec.ofNat 32 n &&& -BitVec.ofNat 32 n = BitVec.twoPow 32 (ctzN n) := by
  obtain ⟨h1, h2, h3⟩ := ctz_spec h0 hn
  generalize ctzN n = c at *
  apply BitVec.eq_of_getLsbD_eq
  intro i hi
  rw [BitVec.getLsbD_and, BitVec.getLsbD_neg, BitVec.getLsbD_twoPow, BitVec.getLsbD_ofNat]
  by_cases e : i = c
  · subst e
    have : ¬ ∃ j, j < i ∧ (BitVec.ofNat 32 n).getLsbD j = true := by
      rintro ⟨j, hj, hb⟩
      rw [BitVec.getLsbD_ofNat, h3 j hj] at hb
      simp at hb
    simp [hi, h2, this]
  · by_cases hlt : i < c
    · simp [h3 i hlt, Ne.symm e]
    · have : ∃ j, j < i ∧ (BitVec.ofNat 32 n).getLsbD j = true := ⟨c, by omega, by rw [BitVec.getLsbD_ofNat]; simp [h1, h2]⟩
      simp [hi, this, Ne.symm e]
end Go.Abs.A1d
