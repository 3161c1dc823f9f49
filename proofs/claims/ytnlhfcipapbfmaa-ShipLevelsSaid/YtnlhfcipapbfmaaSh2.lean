/- How the data of the layers lie: printed by rps.py. -/
import Derived.Test.YtnlhfcipapbfmaaSh0
import Derived.Test.YtnlhfcipapbfmaaSh0t
import Derived.Test.YtnlhfcipapbfmaaAbsE
namespace Go.Abs.B1
open Go.Proofs
set_option linter.all false
abbrev T24 := (Int) × (Int)
def R24 : Rp T24 := (Rp.pair (Rp.int .u64) (Rp.int .u64))
theorem R24_inv {o : Bool} {p : Nat → Prop} {h : Hp} {cs : List Value} {x : T24} (r : R24.r o p h cs x) : cs = [.int .u64 x.1, .int .u64 x.2] ∧ (IntKind.u64.min ≤ x.1 ∧ x.1 ≤ IntKind.u64.max) ∧ (IntKind.u64.min ≤ x.2 ∧ x.2 ≤ IntKind.u64.max) := by
  have r0 : (Rp.pair (Rp.int .u64) (Rp.int .u64)).r o p h cs x := r
  obtain ⟨_, _, rfl, f2, g2⟩ := Rp.pair_inv r0
  obtain ⟨rfl, b3⟩ := Rp.int_inv f2
  obtain ⟨rfl, b4⟩ := Rp.int_inv g2
  exact ⟨by first | rfl | simp, b3, b4⟩
theorem R24_mk {o : Bool} {p : Nat → Prop} {h : Hp} {x : T24}  (q1 : IntKind.u64.min ≤ x.1 ∧ x.1 ≤ IntKind.u64.max) (q2 : IntKind.u64.min ≤ x.2 ∧ x.2 ≤ IntKind.u64.max) : R24.r o p h ([.int .u64 x.1, .int .u64 x.2]) x := by
  have e : ([.int .u64 x.1, .int .u64 x.2] : List Value) = ([.int .u64 x.1] ++ [.int .u64 x.2]) := by first | rfl | simp
  rw [e]
  exact (Rp.pair_mk (Rp.int_mk q1) (Rp.int_mk q2))
abbrev T61 := List Value
abbrev K61 : List Sc := [.int .i64, .int .u8, .int .u8, .int .u8, .int .u8, .int .u8, .int .u8, .int .u8, .int .u8, .int .u8, .int .u8, .int .u8, .int .u8, .int .u8, .int .u8, .int .u8, .int .u8, .int .i64, .int .i64, .int .i64, .int .i64]
def R61 : Rp T61 := Rp.flat K61
abbrev T25 := List T61
def R25 : Rp T25 := Rp.slice R61
abbrev T27 := T25
def R27 : Rp T27 := R25
theorem R27_inv {o : Bool} {p : Nat → Prop} {h : Hp} {cs : List Value} {x : T27} (r : R27.r o p h cs x) : ∃ (v1 : Value), cs = [v1] ∧ R25.r o p h [v1] x := by
  have r0 : R25.r o p h cs x := r
  obtain ⟨w2, rfl⟩ := one_cell rfl r0
  exact ⟨w2, by first | rfl | simp, r0⟩
theorem R27_mk {o : Bool} {p : Nat → Prop} {h : Hp} {x : T27} {w1 : Value} (q1 : R25.r o p h [w1] x) : R27.r o p h ([w1]) x := by
  have e : ([w1] : List Value) = [w1] := by first | rfl | simp
  rw [e]
  exact q1
abbrev T30 := (Int) × (Int)
def R30 : Rp T30 := (Rp.pair (Rp.int .u32) (Rp.int .u64))
theorem R30_inv {o : Bool} {p : Nat → Prop} {h : Hp} {cs : List Value} {x : T30} (r : R30.r o p h cs x) : cs = [.int .u32 x.1, .int .u64 x.2] ∧ (IntKind.u32.min ≤ x.1 ∧ x.1 ≤ IntKind.u32.max) ∧ (IntKind.u64.min ≤ x.2 ∧ x.2 ≤ IntKind.u64.max) := by
  have r0 : (Rp.pair (Rp.int .u32) (Rp.int .u64)).r o p h cs x := r
  obtain ⟨_, _, rfl, f2, g2⟩ := Rp.pair_inv r0
  obtain ⟨rfl, b3⟩ := Rp.int_inv f2
  obtain ⟨rfl, b4⟩ := Rp.int_inv g2
  exact ⟨by first | rfl | simp, b3, b4⟩
theorem R30_mk {o : Bool} {p : Nat → Prop} {h : Hp} {x : T30}  (q1 : IntKind.u32.min ≤ x.1 ∧ x.1 ≤ IntKind.u32.max) (q2 : IntKind.u64.min ≤ x.2 ∧ x.2 ≤ IntKind.u64.max) : R30.r o p h ([.int .u32 x.1, .int .u64 x.2]) x := by
  have e : ([.int .u32 x.1, .int .u64 x.2] : List Value) = ([.int .u32 x.1] ++ [.int .u64 x.2]) := by first | rfl | simp
  rw [e]
  exact (Rp.pair_mk (Rp.int_mk q1) (Rp.int_mk q2))
abbrev T31 := (T30) × (T30) × (T30)
def R31 : Rp T31 := (Rp.pair R30 (Rp.pair R30 R30))
theorem R31_inv {o : Bool} {p : Nat → Prop} {h : Hp} {cs : List Value} {x : T31} (r : R31.r o p h cs x) : cs = [.int .u32 x.1.1, .int .u64 x.1.2, .int .u32 x.2.1.1, .int .u64 x.2.1.2, .int .u32 x.2.2.1, .int .u64 x.2.2.2] ∧ (IntKind.u32.min ≤ x.1.1 ∧ x.1.1 ≤ IntKind.u32.max) ∧ (IntKind.u64.min ≤ x.1.2 ∧ x.1.2 ≤ IntKind.u64.max) ∧ (IntKind.u32.min ≤ x.2.1.1 ∧ x.2.1.1 ≤ IntKind.u32.max) ∧ (IntKind.u64.min ≤ x.2.1.2 ∧ x.2.1.2 ≤ IntKind.u64.max) ∧ (IntKind.u32.min ≤ x.2.2.1 ∧ x.2.2.1 ≤ IntKind.u32.max) ∧ (IntKind.u64.min ≤ x.2.2.2 ∧ x.2.2.2 ≤ IntKind.u64.max) := by
  have r0 : (Rp.pair R30 (Rp.pair R30 R30)).r o p h cs x := r
  obtain ⟨_, _, rfl, f2, g2⟩ := Rp.pair_inv r0
  obtain ⟨rfl, b4, b5⟩ := R30_inv f2
  obtain ⟨_, _, rfl, f6, g6⟩ := Rp.pair_inv g2
  obtain ⟨rfl, b8, b9⟩ := R30_inv f6
  obtain ⟨rfl, b11, b12⟩ := R30_inv g6
  exact ⟨by first | rfl | simp, b4, b5, b8, b9, b11, b12⟩
theorem R31_mk {o : Bool} {p : Nat → Prop} {h : Hp} {x : T31}  (q1 : IntKind.u32.min ≤ x.1.1 ∧ x.1.1 ≤ IntKind.u32.max) (q2 : IntKind.u64.min ≤ x.1.2 ∧ x.1.2 ≤ IntKind.u64.max) (q3 : IntKind.u32.min ≤ x.2.1.1 ∧ x.2.1.1 ≤ IntKind.u32.max) (q4 : IntKind.u64.min ≤ x.2.1.2 ∧ x.2.1.2 ≤ IntKind.u64.max) (q5 : IntKind.u32.min ≤ x.2.2.1 ∧ x.2.2.1 ≤ IntKind.u32.max) (q6 : IntKind.u64.min ≤ x.2.2.2 ∧ x.2.2.2 ≤ IntKind.u64.max) : R31.r o p h ([.int .u32 x.1.1, .int .u64 x.1.2, .int .u32 x.2.1.1, .int .u64 x.2.1.2, .int .u32 x.2.2.1, .int .u64 x.2.2.2]) x := by
  have e : ([.int .u32 x.1.1, .int .u64 x.1.2, .int .u32 x.2.1.1, .int .u64 x.2.1.2, .int .u32 x.2.2.1, .int .u64 x.2.2.2] : List Value) = (([.int .u32 x.1.1, .int .u64 x.1.2]) ++ (([.int .u32 x.2.1.1, .int .u64 x.2.1.2]) ++ ([.int .u32 x.2.2.1, .int .u64 x.2.2.2]))) := by first | rfl | simp
  rw [e]
  exact (Rp.pair_mk (R30_mk (x := x.1) q1 q2) (Rp.pair_mk (R30_mk (x := x.2.1) q3 q4) (R30_mk (x := x.2.2) q5 q6)))
abbrev T33 := (T24) × (T27) × (T31)
def R33 : Rp T33 := (Rp.pair R24 (Rp.pair R27 R31))
theorem R33_inv {o : Bool} {p : Nat → Prop} {h : Hp} {cs : List Value} {x : T33} (r : R33.r o p h cs x) : ∃ (v1 : Value), cs = [.int .u64 x.1.1, .int .u64 x.1.2, v1, .int .u32 x.2.2.1.1, .int .u64 x.2.2.1.2, .int .u32 x.2.2.2.1.1, .int .u64 x.2.2.2.1.2, .int .u32 x.2.2.2.2.1, .int .u64 x.2.2.2.2.2] ∧ (IntKind.u64.min ≤ x.1.1 ∧ x.1.1 ≤ IntKind.u64.max) ∧ (IntKind.u64.min ≤ x.1.2 ∧ x.1.2 ≤ IntKind.u64.max) ∧ R25.r o p h [v1] x.2.1 ∧ (IntKind.u32.min ≤ x.2.2.1.1 ∧ x.2.2.1.1 ≤ IntKind.u32.max) ∧ (IntKind.u64.min ≤ x.2.2.1.2 ∧ x.2.2.1.2 ≤ IntKind.u64.max) ∧ (IntKind.u32.min ≤ x.2.2.2.1.1 ∧ x.2.2.2.1.1 ≤ IntKind.u32.max) ∧ (IntKind.u64.min ≤ x.2.2.2.1.2 ∧ x.2.2.2.1.2 ≤ IntKind.u64.max) ∧ (IntKind.u32.min ≤ x.2.2.2.2.1 ∧ x.2.2.2.2.1 ≤ IntKind.u32.max) ∧ (IntKind.u64.min ≤ x.2.2.2.2.2 ∧ x.2.2.2.2.2 ≤ IntKind.u64.max) := by
  have r0 : (Rp.pair R24 (Rp.pair R27 R31)).r o p h cs x := r
  obtain ⟨_, _, rfl, f2, g2⟩ := Rp.pair_inv r0
  obtain ⟨rfl, b4, b5⟩ := R24_inv f2
  obtain ⟨_, _, rfl, f6, g6⟩ := Rp.pair_inv g2
  obtain ⟨w8, rfl, h8⟩ := R27_inv f6
  obtain ⟨rfl, b10, b11, b12, b13, b14, b15⟩ := R31_inv g6
  exact ⟨w8, by first | rfl | simp, b4, b5, h8, b10, b11, b12, b13, b14, b15⟩
theorem R33_mk {o : Bool} {p : Nat → Prop} {h : Hp} {x : T33} {w3 : Value} (q1 : IntKind.u64.min ≤ x.1.1 ∧ x.1.1 ≤ IntKind.u64.max) (q2 : IntKind.u64.min ≤ x.1.2 ∧ x.1.2 ≤ IntKind.u64.max) (q3 : R25.r o p h [w3] x.2.1) (q4 : IntKind.u32.min ≤ x.2.2.1.1 ∧ x.2.2.1.1 ≤ IntKind.u32.max) (q5 : IntKind.u64.min ≤ x.2.2.1.2 ∧ x.2.2.1.2 ≤ IntKind.u64.max) (q6 : IntKind.u32.min ≤ x.2.2.2.1.1 ∧ x.2.2.2.1.1 ≤ IntKind.u32.max) (q7 : IntKind.u64.min ≤ x.2.2.2.1.2 ∧ x.2.2.2.1.2 ≤ IntKind.u64.max) (q8 : IntKind.u32.min ≤ x.2.2.2.2.1 ∧ x.2.2.2.2.1 ≤ IntKind.u32.max) (q9 : IntKind.u64.min ≤ x.2.2.2.2.2 ∧ x.2.2.2.2.2 ≤ IntKind.u64.max) : R33.r o p h ([.int .u64 x.1.1, .int .u64 x.1.2, w3, .int .u32 x.2.2.1.1, .int .u64 x.2.2.1.2, .int .u32 x.2.2.2.1.1, .int .u64 x.2.2.2.1.2, .int .u32 x.2.2.2.2.1, .int .u64 x.2.2.2.2.2]) x := by
  have e : ([.int .u64 x.1.1, .int .u64 x.1.2, w3, .int .u32 x.2.2.1.1, .int .u64 x.2.2.1.2, .int .u32 x.2.2.2.1.1, .int .u64 x.2.2.2.1.2, .int .u32 x.2.2.2.2.1, .int .u64 x.2.2.2.2.2] : List Value) = (([.int .u64 x.1.1, .int .u64 x.1.2]) ++ (([w3]) ++ ([.int .u32 x.2.2.1.1, .int .u64 x.2.2.1.2, .int .u32 x.2.2.2.1.1, .int .u64 x.2.2.2.1.2, .int .u32 x.2.2.2.2.1, .int .u64 x.2.2.2.2.2]))) := by first | rfl | simp
  rw [e]
  exact (Rp.pair_mk (R24_mk (x := x.1) q1 q2) (Rp.pair_mk (R27_mk (x := x.2.1) q3) (R31_mk (x := x.2.2) q4 q5 q6 q7 q8 q9)))
abbrev T139 := List Value
abbrev K139 : List Sc := [.int .i64, .int .u8, .int .u8, .int .u8, .int .u8, .int .u8, .int .u8, .int .u8, .int .u8, .int .u8, .int .u8, .int .u8, .int .u8, .int .u8, .int .u8, .int .u8, .int .u8, .int .i64, .int .i64, .bool, .int .i64, .int .i64]
def R139 : Rp T139 := Rp.flat K139
abbrev T43 := List T139
def R43 : Rp T43 := Rp.slice R139
abbrev T45 := T43
def R45 : Rp T45 := R43
theorem R45_inv {o : Bool} {p : Nat → Prop} {h : Hp} {cs : List Value} {x : T45} (r : R45.r o p h cs x) : ∃ (v1 : Value), cs = [v1] ∧ R43.r o p h [v1] x := by
  have r0 : R43.r o p h cs x := r
  obtain ⟨w2, rfl⟩ := one_cell rfl r0
  exact ⟨w2, by first | rfl | simp, r0⟩
theorem R45_mk {o : Bool} {p : Nat → Prop} {h : Hp} {x : T45} {w1 : Value} (q1 : R43.r o p h [w1] x) : R45.r o p h ([w1]) x := by
  have e : ([w1] : List Value) = [w1] := by first | rfl | simp
  rw [e]
  exact q1
abbrev T85 := (Int) × (Int) × (Int) × (T45)
def R85 : Rp T85 := (Rp.pair (Rp.int .u64) (Rp.pair (Rp.int .i64) (Rp.pair (Rp.int .u32) R45)))
theorem R85_inv {o : Bool} {p : Nat → Prop} {h : Hp} {cs : List Value} {x : T85} (r : R85.r o p h cs x) : ∃ (v1 : Value), cs = [.int .u64 x.1, .int .i64 x.2.1, .int .u32 x.2.2.1, v1] ∧ (IntKind.u64.min ≤ x.1 ∧ x.1 ≤ IntKind.u64.max) ∧ (IntKind.i64.min ≤ x.2.1 ∧ x.2.1 ≤ IntKind.i64.max) ∧ (IntKind.u32.min ≤ x.2.2.1 ∧ x.2.2.1 ≤ IntKind.u32.max) ∧ R43.r o p h [v1] x.2.2.2 := by
  have r0 : (Rp.pair (Rp.int .u64) (Rp.pair (Rp.int .i64) (Rp.pair (Rp.int .u32) R45))).r o p h cs x := r
  obtain ⟨_, _, rfl, f2, g2⟩ := Rp.pair_inv r0
  obtain ⟨rfl, b3⟩ := Rp.int_inv f2
  obtain ⟨_, _, rfl, f4, g4⟩ := Rp.pair_inv g2
  obtain ⟨rfl, b5⟩ := Rp.int_inv f4
  obtain ⟨_, _, rfl, f6, g6⟩ := Rp.pair_inv g4
  obtain ⟨rfl, b7⟩ := Rp.int_inv f6
  obtain ⟨w9, rfl, h9⟩ := R45_inv g6
  exact ⟨w9, by first | rfl | simp, b3, b5, b7, h9⟩
theorem R85_mk {o : Bool} {p : Nat → Prop} {h : Hp} {x : T85} {w4 : Value} (q1 : IntKind.u64.min ≤ x.1 ∧ x.1 ≤ IntKind.u64.max) (q2 : IntKind.i64.min ≤ x.2.1 ∧ x.2.1 ≤ IntKind.i64.max) (q3 : IntKind.u32.min ≤ x.2.2.1 ∧ x.2.2.1 ≤ IntKind.u32.max) (q4 : R43.r o p h [w4] x.2.2.2) : R85.r o p h ([.int .u64 x.1, .int .i64 x.2.1, .int .u32 x.2.2.1, w4]) x := by
  have e : ([.int .u64 x.1, .int .i64 x.2.1, .int .u32 x.2.2.1, w4] : List Value) = ([.int .u64 x.1] ++ ([.int .i64 x.2.1] ++ ([.int .u32 x.2.2.1] ++ ([w4])))) := by first | rfl | simp
  rw [e]
  exact (Rp.pair_mk (Rp.int_mk q1) (Rp.pair_mk (Rp.int_mk q2) (Rp.pair_mk (Rp.int_mk q3) (R45_mk (x := x.2.2.2) q4))))
abbrev T34 := List T85
def R34 : Rp T34 := Rp.slice R85
abbrev T36 := (Int) × (T33) × (T34)
def R36 : Rp T36 := (Rp.pair (Rp.int .u64) (Rp.pair R33 R34))
theorem R36_inv {o : Bool} {p : Nat → Prop} {h : Hp} {cs : List Value} {x : T36} (r : R36.r o p h cs x) : ∃ (v1 : Value) (v2 : Value), cs = [.int .u64 x.1, .int .u64 x.2.1.1.1, .int .u64 x.2.1.1.2, v1, .int .u32 x.2.1.2.2.1.1, .int .u64 x.2.1.2.2.1.2, .int .u32 x.2.1.2.2.2.1.1, .int .u64 x.2.1.2.2.2.1.2, .int .u32 x.2.1.2.2.2.2.1, .int .u64 x.2.1.2.2.2.2.2, v2] ∧ (IntKind.u64.min ≤ x.1 ∧ x.1 ≤ IntKind.u64.max) ∧ (IntKind.u64.min ≤ x.2.1.1.1 ∧ x.2.1.1.1 ≤ IntKind.u64.max) ∧ (IntKind.u64.min ≤ x.2.1.1.2 ∧ x.2.1.1.2 ≤ IntKind.u64.max) ∧ R25.r o p h [v1] x.2.1.2.1 ∧ (IntKind.u32.min ≤ x.2.1.2.2.1.1 ∧ x.2.1.2.2.1.1 ≤ IntKind.u32.max) ∧ (IntKind.u64.min ≤ x.2.1.2.2.1.2 ∧ x.2.1.2.2.1.2 ≤ IntKind.u64.max) ∧ (IntKind.u32.min ≤ x.2.1.2.2.2.1.1 ∧ x.2.1.2.2.2.1.1 ≤ IntKind.u32.max) ∧ (IntKind.u64.min ≤ x.2.1.2.2.2.1.2 ∧ x.2.1.2.2.2.1.2 ≤ IntKind.u64.max) ∧ (IntKind.u32.min ≤ x.2.1.2.2.2.2.1 ∧ x.2.1.2.2.2.2.1 ≤ IntKind.u32.max) ∧ (IntKind.u64.min ≤ x.2.1.2.2.2.2.2 ∧ x.2.1.2.2.2.2.2 ≤ IntKind.u64.max) ∧ R34.r o p h [v2] x.2.2 := by
  have r0 : (Rp.pair (Rp.int .u64) (Rp.pair R33 R34)).r o p h cs x := r
  obtain ⟨_, _, rfl, f2, g2⟩ := Rp.pair_inv r0
  obtain ⟨rfl, b3⟩ := Rp.int_inv f2
  obtain ⟨_, _, rfl, f4, g4⟩ := Rp.pair_inv g2
  obtain ⟨w8, rfl, b6, b7, h8, b9, b10, b11, b12, b13, b14⟩ := R33_inv f4
  obtain ⟨w15, rfl⟩ := one_cell rfl g4
  exact ⟨w8, w15, by first | rfl | simp, b3, b6, b7, h8, b9, b10, b11, b12, b13, b14, g4⟩
theorem R36_mk {o : Bool} {p : Nat → Prop} {h : Hp} {x : T36} {w4 : Value} {w11 : Value} (q1 : IntKind.u64.min ≤ x.1 ∧ x.1 ≤ IntKind.u64.max) (q2 : IntKind.u64.min ≤ x.2.1.1.1 ∧ x.2.1.1.1 ≤ IntKind.u64.max) (q3 : IntKind.u64.min ≤ x.2.1.1.2 ∧ x.2.1.1.2 ≤ IntKind.u64.max) (q4 : R25.r o p h [w4] x.2.1.2.1) (q5 : IntKind.u32.min ≤ x.2.1.2.2.1.1 ∧ x.2.1.2.2.1.1 ≤ IntKind.u32.max) (q6 : IntKind.u64.min ≤ x.2.1.2.2.1.2 ∧ x.2.1.2.2.1.2 ≤ IntKind.u64.max) (q7 : IntKind.u32.min ≤ x.2.1.2.2.2.1.1 ∧ x.2.1.2.2.2.1.1 ≤ IntKind.u32.max) (q8 : IntKind.u64.min ≤ x.2.1.2.2.2.1.2 ∧ x.2.1.2.2.2.1.2 ≤ IntKind.u64.max) (q9 : IntKind.u32.min ≤ x.2.1.2.2.2.2.1 ∧ x.2.1.2.2.2.2.1 ≤ IntKind.u32.max) (q10 : IntKind.u64.min ≤ x.2.1.2.2.2.2.2 ∧ x.2.1.2.2.2.2.2 ≤ IntKind.u64.max) (q11 : R34.r o p h [w11] x.2.2) : R36.r o p h ([.int .u64 x.1, .int .u64 x.2.1.1.1, .int .u64 x.2.1.1.2, w4, .int .u32 x.2.1.2.2.1.1, .int .u64 x.2.1.2.2.1.2, .int .u32 x.2.1.2.2.2.1.1, .int .u64 x.2.1.2.2.2.1.2, .int .u32 x.2.1.2.2.2.2.1, .int .u64 x.2.1.2.2.2.2.2, w11]) x := by
  have e : ([.int .u64 x.1, .int .u64 x.2.1.1.1, .int .u64 x.2.1.1.2, w4, .int .u32 x.2.1.2.2.1.1, .int .u64 x.2.1.2.2.1.2, .int .u32 x.2.1.2.2.2.1.1, .int .u64 x.2.1.2.2.2.1.2, .int .u32 x.2.1.2.2.2.2.1, .int .u64 x.2.1.2.2.2.2.2, w11] : List Value) = ([.int .u64 x.1] ++ (([.int .u64 x.2.1.1.1, .int .u64 x.2.1.1.2, w4, .int .u32 x.2.1.2.2.1.1, .int .u64 x.2.1.2.2.1.2, .int .u32 x.2.1.2.2.2.1.1, .int .u64 x.2.1.2.2.2.1.2, .int .u32 x.2.1.2.2.2.2.1, .int .u64 x.2.1.2.2.2.2.2]) ++ [w11])) := by first | rfl | simp
  rw [e]
  exact (Rp.pair_mk (Rp.int_mk q1) (Rp.pair_mk (R33_mk (x := x.2.1) q2 q3 q4 q5 q6 q7 q8 q9 q10) q11))
abbrev T47 := (Int) × (Int) × (Int) × (Int) × (T24) × (T34) × (Int) × (Bool) × (Int) × (Int) × (T33) × (Int) × (T45) × (Int)
def R47 : Rp T47 := (Rp.pair (Rp.int .i64) (Rp.pair (Rp.int .i64) (Rp.pair (Rp.int .i64) (Rp.pair (Rp.int .u64) (Rp.pair R24 (Rp.pair R34 (Rp.pair (Rp.int .u64) (Rp.pair Rp.bool (Rp.pair (Rp.int .u64) (Rp.pair (Rp.int .u64) (Rp.pair R33 (Rp.pair (Rp.int .u32) (Rp.pair R45 (Rp.int .i64))))))))))))))
theorem R47_inv {o : Bool} {p : Nat → Prop} {h : Hp} {cs : List Value} {x : T47} (r : R47.r o p h cs x) : ∃ (v1 : Value) (v2 : Value) (v3 : Value), cs = [.int .i64 x.1, .int .i64 x.2.1, .int .i64 x.2.2.1, .int .u64 x.2.2.2.1, .int .u64 x.2.2.2.2.1.1, .int .u64 x.2.2.2.2.1.2, v1, .int .u64 x.2.2.2.2.2.2.1, .bool x.2.2.2.2.2.2.2.1, .int .u64 x.2.2.2.2.2.2.2.2.1, .int .u64 x.2.2.2.2.2.2.2.2.2.1, .int .u64 x.2.2.2.2.2.2.2.2.2.2.1.1.1, .int .u64 x.2.2.2.2.2.2.2.2.2.2.1.1.2, v2, .int .u32 x.2.2.2.2.2.2.2.2.2.2.1.2.2.1.1, .int .u64 x.2.2.2.2.2.2.2.2.2.2.1.2.2.1.2, .int .u32 x.2.2.2.2.2.2.2.2.2.2.1.2.2.2.1.1, .int .u64 x.2.2.2.2.2.2.2.2.2.2.1.2.2.2.1.2, .int .u32 x.2.2.2.2.2.2.2.2.2.2.1.2.2.2.2.1, .int .u64 x.2.2.2.2.2.2.2.2.2.2.1.2.2.2.2.2, .int .u32 x.2.2.2.2.2.2.2.2.2.2.2.1, v3, .int .i64 x.2.2.2.2.2.2.2.2.2.2.2.2.2] ∧ (IntKind.i64.min ≤ x.1 ∧ x.1 ≤ IntKind.i64.max) ∧ (IntKind.i64.min ≤ x.2.1 ∧ x.2.1 ≤ IntKind.i64.max) ∧ (IntKind.i64.min ≤ x.2.2.1 ∧ x.2.2.1 ≤ IntKind.i64.max) ∧ (IntKind.u64.min ≤ x.2.2.2.1 ∧ x.2.2.2.1 ≤ IntKind.u64.max) ∧ (IntKind.u64.min ≤ x.2.2.2.2.1.1 ∧ x.2.2.2.2.1.1 ≤ IntKind.u64.max) ∧ (IntKind.u64.min ≤ x.2.2.2.2.1.2 ∧ x.2.2.2.2.1.2 ≤ IntKind.u64.max) ∧ R34.r o p h [v1] x.2.2.2.2.2.1 ∧ (IntKind.u64.min ≤ x.2.2.2.2.2.2.1 ∧ x.2.2.2.2.2.2.1 ≤ IntKind.u64.max) ∧ (IntKind.u64.min ≤ x.2.2.2.2.2.2.2.2.1 ∧ x.2.2.2.2.2.2.2.2.1 ≤ IntKind.u64.max) ∧ (IntKind.u64.min ≤ x.2.2.2.2.2.2.2.2.2.1 ∧ x.2.2.2.2.2.2.2.2.2.1 ≤ IntKind.u64.max) ∧ (IntKind.u64.min ≤ x.2.2.2.2.2.2.2.2.2.2.1.1.1 ∧ x.2.2.2.2.2.2.2.2.2.2.1.1.1 ≤ IntKind.u64.max) ∧ (IntKind.u64.min ≤ x.2.2.2.2.2.2.2.2.2.2.1.1.2 ∧ x.2.2.2.2.2.2.2.2.2.2.1.1.2 ≤ IntKind.u64.max) ∧ R25.r o p h [v2] x.2.2.2.2.2.2.2.2.2.2.1.2.1 ∧ (IntKind.u32.min ≤ x.2.2.2.2.2.2.2.2.2.2.1.2.2.1.1 ∧ x.2.2.2.2.2.2.2.2.2.2.1.2.2.1.1 ≤ IntKind.u32.max) ∧ (IntKind.u64.min ≤ x.2.2.2.2.2.2.2.2.2.2.1.2.2.1.2 ∧ x.2.2.2.2.2.2.2.2.2.2.1.2.2.1.2 ≤ IntKind.u64.max) ∧ (IntKind.u32.min ≤ x.2.2.2.2.2.2.2.2.2.2.1.2.2.2.1.1 ∧ x.2.2.2.2.2.2.2.2.2.2.1.2.2.2.1.1 ≤ IntKind.u32.max) ∧ (IntKind.u64.min ≤ x.2.2.2.2.2.2.2.2.2.2.1.2.2.2.1.2 ∧ x.2.2.2.2.2.2.2.2.2.2.1.2.2.2.1.2 ≤ IntKind.u64.max) ∧ (IntKind.u32.min ≤ x.2.2.2.2.2.2.2.2.2.2.1.2.2.2.2.1 ∧ x.2.2.2.2.2.2.2.2.2.2.1.2.2.2.2.1 ≤ IntKind.u32.max) ∧ (IntKind.u64.min ≤ x.2.2.2.2.2.2.2.2.2.2.1.2.2.2.2.2 ∧ x.2.2.2.2.2.2.2.2.2.2.1.2.2.2.2.2 ≤ IntKind.u64.max) ∧ (IntKind.u32.min ≤ x.2.2.2.2.2.2.2.2.2.2.2.1 ∧ x.2.2.2.2.2.2.2.2.2.2.2.1 ≤ IntKind.u32.max) ∧ R43.r o p h [v3] x.2.2.2.2.2.2.2.2.2.2.2.2.1 ∧ (IntKind.i64.min ≤ x.2.2.2.2.2.2.2.2.2.2.2.2.2 ∧ x.2.2.2.2.2.2.2.2.2.2.2.2.2 ≤ IntKind.i64.max) := by
  have r0 : (Rp.pair (Rp.int .i64) (Rp.pair (Rp.int .i64) (Rp.pair (Rp.int .i64) (Rp.pair (Rp.int .u64) (Rp.pair R24 (Rp.pair R34 (Rp.pair (Rp.int .u64) (Rp.pair Rp.bool (Rp.pair (Rp.int .u64) (Rp.pair (Rp.int .u64) (Rp.pair R33 (Rp.pair (Rp.int .u32) (Rp.pair R45 (Rp.int .i64)))))))))))))).r o p h cs x := r
  obtain ⟨_, _, rfl, f2, g2⟩ := Rp.pair_inv r0
  obtain ⟨rfl, b3⟩ := Rp.int_inv f2
  obtain ⟨_, _, rfl, f4, g4⟩ := Rp.pair_inv g2
  obtain ⟨rfl, b5⟩ := Rp.int_inv f4
  obtain ⟨_, _, rfl, f6, g6⟩ := Rp.pair_inv g4
  obtain ⟨rfl, b7⟩ := Rp.int_inv f6
  obtain ⟨_, _, rfl, f8, g8⟩ := Rp.pair_inv g6
  obtain ⟨rfl, b9⟩ := Rp.int_inv f8
  obtain ⟨_, _, rfl, f10, g10⟩ := Rp.pair_inv g8
  obtain ⟨rfl, b12, b13⟩ := R24_inv f10
  obtain ⟨_, _, rfl, f14, g14⟩ := Rp.pair_inv g10
  obtain ⟨w15, rfl⟩ := one_cell rfl f14
  obtain ⟨_, _, rfl, f16, g16⟩ := Rp.pair_inv g14
  obtain ⟨rfl, b17⟩ := Rp.int_inv f16
  obtain ⟨_, _, rfl, f18, g18⟩ := Rp.pair_inv g16
  obtain rfl := Rp.bool_inv f18
  obtain ⟨_, _, rfl, f20, g20⟩ := Rp.pair_inv g18
  obtain ⟨rfl, b21⟩ := Rp.int_inv f20
  obtain ⟨_, _, rfl, f22, g22⟩ := Rp.pair_inv g20
  obtain ⟨rfl, b23⟩ := Rp.int_inv f22
  obtain ⟨_, _, rfl, f24, g24⟩ := Rp.pair_inv g22
  obtain ⟨w28, rfl, b26, b27, h28, b29, b30, b31, b32, b33, b34⟩ := R33_inv f24
  obtain ⟨_, _, rfl, f35, g35⟩ := Rp.pair_inv g24
  obtain ⟨rfl, b36⟩ := Rp.int_inv f35
  obtain ⟨_, _, rfl, f37, g37⟩ := Rp.pair_inv g35
  obtain ⟨w39, rfl, h39⟩ := R45_inv f37
  obtain ⟨rfl, b40⟩ := Rp.int_inv g37
  exact ⟨w15, w28, w39, by first | rfl | simp, b3, b5, b7, b9, b12, b13, f14, b17, b21, b23, b26, b27, h28, b29, b30, b31, b32, b33, b34, b36, h39, b40⟩
theorem R47_mk {o : Bool} {p : Nat → Prop} {h : Hp} {x : T47} {w7 : Value} {w14 : Value} {w22 : Value} (q1 : IntKind.i64.min ≤ x.1 ∧ x.1 ≤ IntKind.i64.max) (q2 : IntKind.i64.min ≤ x.2.1 ∧ x.2.1 ≤ IntKind.i64.max) (q3 : IntKind.i64.min ≤ x.2.2.1 ∧ x.2.2.1 ≤ IntKind.i64.max) (q4 : IntKind.u64.min ≤ x.2.2.2.1 ∧ x.2.2.2.1 ≤ IntKind.u64.max) (q5 : IntKind.u64.min ≤ x.2.2.2.2.1.1 ∧ x.2.2.2.2.1.1 ≤ IntKind.u64.max) (q6 : IntKind.u64.min ≤ x.2.2.2.2.1.2 ∧ x.2.2.2.2.1.2 ≤ IntKind.u64.max) (q7 : R34.r o p h [w7] x.2.2.2.2.2.1) (q8 : IntKind.u64.min ≤ x.2.2.2.2.2.2.1 ∧ x.2.2.2.2.2.2.1 ≤ IntKind.u64.max) (q10 : IntKind.u64.min ≤ x.2.2.2.2.2.2.2.2.1 ∧ x.2.2.2.2.2.2.2.2.1 ≤ IntKind.u64.max) (q11 : IntKind.u64.min ≤ x.2.2.2.2.2.2.2.2.2.1 ∧ x.2.2.2.2.2.2.2.2.2.1 ≤ IntKind.u64.max) (q12 : IntKind.u64.min ≤ x.2.2.2.2.2.2.2.2.2.2.1.1.1 ∧ x.2.2.2.2.2.2.2.2.2.2.1.1.1 ≤ IntKind.u64.max) (q13 : IntKind.u64.min ≤ x.2.2.2.2.2.2.2.2.2.2.1.1.2 ∧ x.2.2.2.2.2.2.2.2.2.2.1.1.2 ≤ IntKind.u64.max) (q14 : R25.r o p h [w14] x.2.2.2.2.2.2.2.2.2.2.1.2.1) (q15 : IntKind.u32.min ≤ x.2.2.2.2.2.2.2.2.2.2.1.2.2.1.1 ∧ x.2.2.2.2.2.2.2.2.2.2.1.2.2.1.1 ≤ IntKind.u32.max) (q16 : IntKind.u64.min ≤ x.2.2.2.2.2.2.2.2.2.2.1.2.2.1.2 ∧ x.2.2.2.2.2.2.2.2.2.2.1.2.2.1.2 ≤ IntKind.u64.max) (q17 : IntKind.u32.min ≤ x.2.2.2.2.2.2.2.2.2.2.1.2.2.2.1.1 ∧ x.2.2.2.2.2.2.2.2.2.2.1.2.2.2.1.1 ≤ IntKind.u32.max) (q18 : IntKind.u64.min ≤ x.2.2.2.2.2.2.2.2.2.2.1.2.2.2.1.2 ∧ x.2.2.2.2.2.2.2.2.2.2.1.2.2.2.1.2 ≤ IntKind.u64.max) (q19 : IntKind.u32.min ≤ x.2.2.2.2.2.2.2.2.2.2.1.2.2.2.2.1 ∧ x.2.2.2.2.2.2.2.2.2.2.1.2.2.2.2.1 ≤ IntKind.u32.max) (q20 : IntKind.u64.min ≤ x.2.2.2.2.2.2.2.2.2.2.1.2.2.2.2.2 ∧ x.2.2.2.2.2.2.2.2.2.2.1.2.2.2.2.2 ≤ IntKind.u64.max) (q21 : IntKind.u32.min ≤ x.2.2.2.2.2.2.2.2.2.2.2.1 ∧ x.2.2.2.2.2.2.2.2.2.2.2.1 ≤ IntKind.u32.max) (q22 : R43.r o p h [w22] x.2.2.2.2.2.2.2.2.2.2.2.2.1) (q23 : IntKind.i64.min ≤ x.2.2.2.2.2.2.2.2.2.2.2.2.2 ∧ x.2.2.2.2.2.2.2.2.2.2.2.2.2 ≤ IntKind.i64.max) : R47.r o p h ([.int .i64 x.1, .int .i64 x.2.1, .int .i64 x.2.2.1, .int .u64 x.2.2.2.1, .int .u64 x.2.2.2.2.1.1, .int .u64 x.2.2.2.2.1.2, w7, .int .u64 x.2.2.2.2.2.2.1, .bool x.2.2.2.2.2.2.2.1, .int .u64 x.2.2.2.2.2.2.2.2.1, .int .u64 x.2.2.2.2.2.2.2.2.2.1, .int .u64 x.2.2.2.2.2.2.2.2.2.2.1.1.1, .int .u64 x.2.2.2.2.2.2.2.2.2.2.1.1.2, w14, .int .u32 x.2.2.2.2.2.2.2.2.2.2.1.2.2.1.1, .int .u64 x.2.2.2.2.2.2.2.2.2.2.1.2.2.1.2, .int .u32 x.2.2.2.2.2.2.2.2.2.2.1.2.2.2.1.1, .int .u64 x.2.2.2.2.2.2.2.2.2.2.1.2.2.2.1.2, .int .u32 x.2.2.2.2.2.2.2.2.2.2.1.2.2.2.2.1, .int .u64 x.2.2.2.2.2.2.2.2.2.2.1.2.2.2.2.2, .int .u32 x.2.2.2.2.2.2.2.2.2.2.2.1, w22, .int .i64 x.2.2.2.2.2.2.2.2.2.2.2.2.2]) x := by
  have e : ([.int .i64 x.1, .int .i64 x.2.1, .int .i64 x.2.2.1, .int .u64 x.2.2.2.1, .int .u64 x.2.2.2.2.1.1, .int .u64 x.2.2.2.2.1.2, w7, .int .u64 x.2.2.2.2.2.2.1, .bool x.2.2.2.2.2.2.2.1, .int .u64 x.2.2.2.2.2.2.2.2.1, .int .u64 x.2.2.2.2.2.2.2.2.2.1, .int .u64 x.2.2.2.2.2.2.2.2.2.2.1.1.1, .int .u64 x.2.2.2.2.2.2.2.2.2.2.1.1.2, w14, .int .u32 x.2.2.2.2.2.2.2.2.2.2.1.2.2.1.1, .int .u64 x.2.2.2.2.2.2.2.2.2.2.1.2.2.1.2, .int .u32 x.2.2.2.2.2.2.2.2.2.2.1.2.2.2.1.1, .int .u64 x.2.2.2.2.2.2.2.2.2.2.1.2.2.2.1.2, .int .u32 x.2.2.2.2.2.2.2.2.2.2.1.2.2.2.2.1, .int .u64 x.2.2.2.2.2.2.2.2.2.2.1.2.2.2.2.2, .int .u32 x.2.2.2.2.2.2.2.2.2.2.2.1, w22, .int .i64 x.2.2.2.2.2.2.2.2.2.2.2.2.2] : List Value) = ([.int .i64 x.1] ++ ([.int .i64 x.2.1] ++ ([.int .i64 x.2.2.1] ++ ([.int .u64 x.2.2.2.1] ++ (([.int .u64 x.2.2.2.2.1.1, .int .u64 x.2.2.2.2.1.2]) ++ ([w7] ++ ([.int .u64 x.2.2.2.2.2.2.1] ++ ([.bool x.2.2.2.2.2.2.2.1] ++ ([.int .u64 x.2.2.2.2.2.2.2.2.1] ++ ([.int .u64 x.2.2.2.2.2.2.2.2.2.1] ++ (([.int .u64 x.2.2.2.2.2.2.2.2.2.2.1.1.1, .int .u64 x.2.2.2.2.2.2.2.2.2.2.1.1.2, w14, .int .u32 x.2.2.2.2.2.2.2.2.2.2.1.2.2.1.1, .int .u64 x.2.2.2.2.2.2.2.2.2.2.1.2.2.1.2, .int .u32 x.2.2.2.2.2.2.2.2.2.2.1.2.2.2.1.1, .int .u64 x.2.2.2.2.2.2.2.2.2.2.1.2.2.2.1.2, .int .u32 x.2.2.2.2.2.2.2.2.2.2.1.2.2.2.2.1, .int .u64 x.2.2.2.2.2.2.2.2.2.2.1.2.2.2.2.2]) ++ ([.int .u32 x.2.2.2.2.2.2.2.2.2.2.2.1] ++ (([w22]) ++ [.int .i64 x.2.2.2.2.2.2.2.2.2.2.2.2.2]))))))))))))) := by first | rfl | simp
  rw [e]
  exact (Rp.pair_mk (Rp.int_mk q1) (Rp.pair_mk (Rp.int_mk q2) (Rp.pair_mk (Rp.int_mk q3) (Rp.pair_mk (Rp.int_mk q4) (Rp.pair_mk (R24_mk (x := x.2.2.2.2.1) q5 q6) (Rp.pair_mk q7 (Rp.pair_mk (Rp.int_mk q8) (Rp.pair_mk Rp.bool_mk (Rp.pair_mk (Rp.int_mk q10) (Rp.pair_mk (Rp.int_mk q11) (Rp.pair_mk (R33_mk (x := x.2.2.2.2.2.2.2.2.2.2.1) q12 q13 q14 q15 q16 q17 q18 q19 q20) (Rp.pair_mk (Rp.int_mk q21) (Rp.pair_mk (R45_mk (x := x.2.2.2.2.2.2.2.2.2.2.2.2.1) q22) (Rp.int_mk q23))))))))))))))
abbrev T37 := List Int
def R37 : Rp T37 := Rp.slice (Rp.int .u64)
abbrev T66 := (Int) × (Int) × (T47)
def R66 : Rp T66 := (Rp.pair (Rp.int .u64) (Rp.pair (Rp.int .u64) R47))
theorem R66_inv {o : Bool} {p : Nat → Prop} {h : Hp} {cs : List Value} {x : T66} (r : R66.r o p h cs x) : ∃ (v1 : Value) (v2 : Value) (v3 : Value), cs = [.int .u64 x.1, .int .u64 x.2.1, .int .i64 x.2.2.1, .int .i64 x.2.2.2.1, .int .i64 x.2.2.2.2.1, .int .u64 x.2.2.2.2.2.1, .int .u64 x.2.2.2.2.2.2.1.1, .int .u64 x.2.2.2.2.2.2.1.2, v1, .int .u64 x.2.2.2.2.2.2.2.2.1, .bool x.2.2.2.2.2.2.2.2.2.1, .int .u64 x.2.2.2.2.2.2.2.2.2.2.1, .int .u64 x.2.2.2.2.2.2.2.2.2.2.2.1, .int .u64 x.2.2.2.2.2.2.2.2.2.2.2.2.1.1.1, .int .u64 x.2.2.2.2.2.2.2.2.2.2.2.2.1.1.2, v2, .int .u32 x.2.2.2.2.2.2.2.2.2.2.2.2.1.2.2.1.1, .int .u64 x.2.2.2.2.2.2.2.2.2.2.2.2.1.2.2.1.2, .int .u32 x.2.2.2.2.2.2.2.2.2.2.2.2.1.2.2.2.1.1, .int .u64 x.2.2.2.2.2.2.2.2.2.2.2.2.1.2.2.2.1.2, .int .u32 x.2.2.2.2.2.2.2.2.2.2.2.2.1.2.2.2.2.1, .int .u64 x.2.2.2.2.2.2.2.2.2.2.2.2.1.2.2.2.2.2, .int .u32 x.2.2.2.2.2.2.2.2.2.2.2.2.2.1, v3, .int .i64 x.2.2.2.2.2.2.2.2.2.2.2.2.2.2.2] ∧ (IntKind.u64.min ≤ x.1 ∧ x.1 ≤ IntKind.u64.max) ∧ (IntKind.u64.min ≤ x.2.1 ∧ x.2.1 ≤ IntKind.u64.max) ∧ (IntKind.i64.min ≤ x.2.2.1 ∧ x.2.2.1 ≤ IntKind.i64.max) ∧ (IntKind.i64.min ≤ x.2.2.2.1 ∧ x.2.2.2.1 ≤ IntKind.i64.max) ∧ (IntKind.i64.min ≤ x.2.2.2.2.1 ∧ x.2.2.2.2.1 ≤ IntKind.i64.max) ∧ (IntKind.u64.min ≤ x.2.2.2.2.2.1 ∧ x.2.2.2.2.2.1 ≤ IntKind.u64.max) ∧ (IntKind.u64.min ≤ x.2.2.2.2.2.2.1.1 ∧ x.2.2.2.2.2.2.1.1 ≤ IntKind.u64.max) ∧ (IntKind.u64.min ≤ x.2.2.2.2.2.2.1.2 ∧ x.2.2.2.2.2.2.1.2 ≤ IntKind.u64.max) ∧ R34.r o p h [v1] x.2.2.2.2.2.2.2.1 ∧ (IntKind.u64.min ≤ x.2.2.2.2.2.2.2.2.1 ∧ x.2.2.2.2.2.2.2.2.1 ≤ IntKind.u64.max) ∧ (IntKind.u64.min ≤ x.2.2.2.2.2.2.2.2.2.2.1 ∧ x.2.2.2.2.2.2.2.2.2.2.1 ≤ IntKind.u64.max) ∧ (IntKind.u64.min ≤ x.2.2.2.2.2.2.2.2.2.2.2.1 ∧ x.2.2.2.2.2.2.2.2.2.2.2.1 ≤ IntKind.u64.max) ∧ (IntKind.u64.min ≤ x.2.2.2.2.2.2.2.2.2.2.2.2.1.1.1 ∧ x.2.2.2.2.2.2.2.2.2.2.2.2.1.1.1 ≤ IntKind.u64.max) ∧ (IntKind.u64.min ≤ x.2.2.2.2.2.2.2.2.2.2.2.2.1.1.2 ∧ x.2.2.2.2.2.2.2.2.2.2.2.2.1.1.2 ≤ IntKind.u64.max) ∧ R25.r o p h [v2] x.2.2.2.2.2.2.2.2.2.2.2.2.1.2.1 ∧ (IntKind.u32.min ≤ x.2.2.2.2.2.2.2.2.2.2.2.2.1.2.2.1.1 ∧ x.2.2.2.2.2.2.2.2.2.2.2.2.1.2.2.1.1 ≤ IntKind.u32.max) ∧ (IntKind.u64.min ≤ x.2.2.2.2.2.2.2.2.2.2.2.2.1.2.2.1.2 ∧ x.2.2.2.2.2.2.2.2.2.2.2.2.1.2.2.1.2 ≤ IntKind.u64.max) ∧ (IntKind.u32.min ≤ x.2.2.2.2.2.2.2.2.2.2.2.2.1.2.2.2.1.1 ∧ x.2.2.2.2.2.2.2.2.2.2.2.2.1.2.2.2.1.1 ≤ IntKind.u32.max) ∧ (IntKind.u64.min ≤ x.2.2.2.2.2.2.2.2.2.2.2.2.1.2.2.2.1.2 ∧ x.2.2.2.2.2.2.2.2.2.2.2.2.1.2.2.2.1.2 ≤ IntKind.u64.max) ∧ (IntKind.u32.min ≤ x.2.2.2.2.2.2.2.2.2.2.2.2.1.2.2.2.2.1 ∧ x.2.2.2.2.2.2.2.2.2.2.2.2.1.2.2.2.2.1 ≤ IntKind.u32.max) ∧ (IntKind.u64.min ≤ x.2.2.2.2.2.2.2.2.2.2.2.2.1.2.2.2.2.2 ∧ x.2.2.2.2.2.2.2.2.2.2.2.2.1.2.2.2.2.2 ≤ IntKind.u64.max) ∧ (IntKind.u32.min ≤ x.2.2.2.2.2.2.2.2.2.2.2.2.2.1 ∧ x.2.2.2.2.2.2.2.2.2.2.2.2.2.1 ≤ IntKind.u32.max) ∧ R43.r o p h [v3] x.2.2.2.2.2.2.2.2.2.2.2.2.2.2.1 ∧ (IntKind.i64.min ≤ x.2.2.2.2.2.2.2.2.2.2.2.2.2.2.2 ∧ x.2.2.2.2.2.2.2.2.2.2.2.2.2.2.2 ≤ IntKind.i64.max) := by
  have r0 : (Rp.pair (Rp.int .u64) (Rp.pair (Rp.int .u64) R47)).r o p h cs x := r
  obtain ⟨_, _, rfl, f2, g2⟩ := Rp.pair_inv r0
  obtain ⟨rfl, b3⟩ := Rp.int_inv f2
  obtain ⟨_, _, rfl, f4, g4⟩ := Rp.pair_inv g2
  obtain ⟨rfl, b5⟩ := Rp.int_inv f4
  obtain ⟨w13, w20, w28, rfl, b7, b8, b9, b10, b11, b12, h13, b14, b16, b17, b18, b19, h20, b21, b22, b23, b24, b25, b26, b27, h28, b29⟩ := R47_inv g4
  exact ⟨w13, w20, w28, by first | rfl | simp, b3, b5, b7, b8, b9, b10, b11, b12, h13, b14, b16, b17, b18, b19, h20, b21, b22, b23, b24, b25, b26, b27, h28, b29⟩
theorem R66_mk {o : Bool} {p : Nat → Prop} {h : Hp} {x : T66} {w9 : Value} {w16 : Value} {w24 : Value} (q1 : IntKind.u64.min ≤ x.1 ∧ x.1 ≤ IntKind.u64.max) (q2 : IntKind.u64.min ≤ x.2.1 ∧ x.2.1 ≤ IntKind.u64.max) (q3 : IntKind.i64.min ≤ x.2.2.1 ∧ x.2.2.1 ≤ IntKind.i64.max) (q4 : IntKind.i64.min ≤ x.2.2.2.1 ∧ x.2.2.2.1 ≤ IntKind.i64.max) (q5 : IntKind.i64.min ≤ x.2.2.2.2.1 ∧ x.2.2.2.2.1 ≤ IntKind.i64.max) (q6 : IntKind.u64.min ≤ x.2.2.2.2.2.1 ∧ x.2.2.2.2.2.1 ≤ IntKind.u64.max) (q7 : IntKind.u64.min ≤ x.2.2.2.2.2.2.1.1 ∧ x.2.2.2.2.2.2.1.1 ≤ IntKind.u64.max) (q8 : IntKind.u64.min ≤ x.2.2.2.2.2.2.1.2 ∧ x.2.2.2.2.2.2.1.2 ≤ IntKind.u64.max) (q9 : R34.r o p h [w9] x.2.2.2.2.2.2.2.1) (q10 : IntKind.u64.min ≤ x.2.2.2.2.2.2.2.2.1 ∧ x.2.2.2.2.2.2.2.2.1 ≤ IntKind.u64.max) (q12 : IntKind.u64.min ≤ x.2.2.2.2.2.2.2.2.2.2.1 ∧ x.2.2.2.2.2.2.2.2.2.2.1 ≤ IntKind.u64.max) (q13 : IntKind.u64.min ≤ x.2.2.2.2.2.2.2.2.2.2.2.1 ∧ x.2.2.2.2.2.2.2.2.2.2.2.1 ≤ IntKind.u64.max) (q14 : IntKind.u64.min ≤ x.2.2.2.2.2.2.2.2.2.2.2.2.1.1.1 ∧ x.2.2.2.2.2.2.2.2.2.2.2.2.1.1.1 ≤ IntKind.u64.max) (q15 : IntKind.u64.min ≤ x.2.2.2.2.2.2.2.2.2.2.2.2.1.1.2 ∧ x.2.2.2.2.2.2.2.2.2.2.2.2.1.1.2 ≤ IntKind.u64.max) (q16 : R25.r o p h [w16] x.2.2.2.2.2.2.2.2.2.2.2.2.1.2.1) (q17 : IntKind.u32.min ≤ x.2.2.2.2.2.2.2.2.2.2.2.2.1.2.2.1.1 ∧ x.2.2.2.2.2.2.2.2.2.2.2.2.1.2.2.1.1 ≤ IntKind.u32.max) (q18 : IntKind.u64.min ≤ x.2.2.2.2.2.2.2.2.2.2.2.2.1.2.2.1.2 ∧ x.2.2.2.2.2.2.2.2.2.2.2.2.1.2.2.1.2 ≤ IntKind.u64.max) (q19 : IntKind.u32.min ≤ x.2.2.2.2.2.2.2.2.2.2.2.2.1.2.2.2.1.1 ∧ x.2.2.2.2.2.2.2.2.2.2.2.2.1.2.2.2.1.1 ≤ IntKind.u32.max) (q20 : IntKind.u64.min ≤ x.2.2.2.2.2.2.2.2.2.2.2.2.1.2.2.2.1.2 ∧ x.2.2.2.2.2.2.2.2.2.2.2.2.1.2.2.2.1.2 ≤ IntKind.u64.max) (q21 : IntKind.u32.min ≤ x.2.2.2.2.2.2.2.2.2.2.2.2.1.2.2.2.2.1 ∧ x.2.2.2.2.2.2.2.2.2.2.2.2.1.2.2.2.2.1 ≤ IntKind.u32.max) (q22 : IntKind.u64.min ≤ x.2.2.2.2.2.2.2.2.2.2.2.2.1.2.2.2.2.2 ∧ x.2.2.2.2.2.2.2.2.2.2.2.2.1.2.2.2.2.2 ≤ IntKind.u64.max) (q23 : IntKind.u32.min ≤ x.2.2.2.2.2.2.2.2.2.2.2.2.2.1 ∧ x.2.2.2.2.2.2.2.2.2.2.2.2.2.1 ≤ IntKind.u32.max) (q24 : R43.r o p h [w24] x.2.2.2.2.2.2.2.2.2.2.2.2.2.2.1) (q25 : IntKind.i64.min ≤ x.2.2.2.2.2.2.2.2.2.2.2.2.2.2.2 ∧ x.2.2.2.2.2.2.2.2.2.2.2.2.2.2.2 ≤ IntKind.i64.max) : R66.r o p h ([.int .u64 x.1, .int .u64 x.2.1, .int .i64 x.2.2.1, .int .i64 x.2.2.2.1, .int .i64 x.2.2.2.2.1, .int .u64 x.2.2.2.2.2.1, .int .u64 x.2.2.2.2.2.2.1.1, .int .u64 x.2.2.2.2.2.2.1.2, w9, .int .u64 x.2.2.2.2.2.2.2.2.1, .bool x.2.2.2.2.2.2.2.2.2.1, .int .u64 x.2.2.2.2.2.2.2.2.2.2.1, .int .u64 x.2.2.2.2.2.2.2.2.2.2.2.1, .int .u64 x.2.2.2.2.2.2.2.2.2.2.2.2.1.1.1, .int .u64 x.2.2.2.2.2.2.2.2.2.2.2.2.1.1.2, w16, .int .u32 x.2.2.2.2.2.2.2.2.2.2.2.2.1.2.2.1.1, .int .u64 x.2.2.2.2.2.2.2.2.2.2.2.2.1.2.2.1.2, .int .u32 x.2.2.2.2.2.2.2.2.2.2.2.2.1.2.2.2.1.1, .int .u64 x.2.2.2.2.2.2.2.2.2.2.2.2.1.2.2.2.1.2, .int .u32 x.2.2.2.2.2.2.2.2.2.2.2.2.1.2.2.2.2.1, .int .u64 x.2.2.2.2.2.2.2.2.2.2.2.2.1.2.2.2.2.2, .int .u32 x.2.2.2.2.2.2.2.2.2.2.2.2.2.1, w24, .int .i64 x.2.2.2.2.2.2.2.2.2.2.2.2.2.2.2]) x := by
  have e : ([.int .u64 x.1, .int .u64 x.2.1, .int .i64 x.2.2.1, .int .i64 x.2.2.2.1, .int .i64 x.2.2.2.2.1, .int .u64 x.2.2.2.2.2.1, .int .u64 x.2.2.2.2.2.2.1.1, .int .u64 x.2.2.2.2.2.2.1.2, w9, .int .u64 x.2.2.2.2.2.2.2.2.1, .bool x.2.2.2.2.2.2.2.2.2.1, .int .u64 x.2.2.2.2.2.2.2.2.2.2.1, .int .u64 x.2.2.2.2.2.2.2.2.2.2.2.1, .int .u64 x.2.2.2.2.2.2.2.2.2.2.2.2.1.1.1, .int .u64 x.2.2.2.2.2.2.2.2.2.2.2.2.1.1.2, w16, .int .u32 x.2.2.2.2.2.2.2.2.2.2.2.2.1.2.2.1.1, .int .u64 x.2.2.2.2.2.2.2.2.2.2.2.2.1.2.2.1.2, .int .u32 x.2.2.2.2.2.2.2.2.2.2.2.2.1.2.2.2.1.1, .int .u64 x.2.2.2.2.2.2.2.2.2.2.2.2.1.2.2.2.1.2, .int .u32 x.2.2.2.2.2.2.2.2.2.2.2.2.1.2.2.2.2.1, .int .u64 x.2.2.2.2.2.2.2.2.2.2.2.2.1.2.2.2.2.2, .int .u32 x.2.2.2.2.2.2.2.2.2.2.2.2.2.1, w24, .int .i64 x.2.2.2.2.2.2.2.2.2.2.2.2.2.2.2] : List Value) = ([.int .u64 x.1] ++ ([.int .u64 x.2.1] ++ ([.int .i64 x.2.2.1, .int .i64 x.2.2.2.1, .int .i64 x.2.2.2.2.1, .int .u64 x.2.2.2.2.2.1, .int .u64 x.2.2.2.2.2.2.1.1, .int .u64 x.2.2.2.2.2.2.1.2, w9, .int .u64 x.2.2.2.2.2.2.2.2.1, .bool x.2.2.2.2.2.2.2.2.2.1, .int .u64 x.2.2.2.2.2.2.2.2.2.2.1, .int .u64 x.2.2.2.2.2.2.2.2.2.2.2.1, .int .u64 x.2.2.2.2.2.2.2.2.2.2.2.2.1.1.1, .int .u64 x.2.2.2.2.2.2.2.2.2.2.2.2.1.1.2, w16, .int .u32 x.2.2.2.2.2.2.2.2.2.2.2.2.1.2.2.1.1, .int .u64 x.2.2.2.2.2.2.2.2.2.2.2.2.1.2.2.1.2, .int .u32 x.2.2.2.2.2.2.2.2.2.2.2.2.1.2.2.2.1.1, .int .u64 x.2.2.2.2.2.2.2.2.2.2.2.2.1.2.2.2.1.2, .int .u32 x.2.2.2.2.2.2.2.2.2.2.2.2.1.2.2.2.2.1, .int .u64 x.2.2.2.2.2.2.2.2.2.2.2.2.1.2.2.2.2.2, .int .u32 x.2.2.2.2.2.2.2.2.2.2.2.2.2.1, w24, .int .i64 x.2.2.2.2.2.2.2.2.2.2.2.2.2.2.2]))) := by first | rfl | simp
  rw [e]
  exact (Rp.pair_mk (Rp.int_mk q1) (Rp.pair_mk (Rp.int_mk q2) (R47_mk (x := x.2.2) q3 q4 q5 q6 q7 q8 q9 q10 q12 q13 q14 q15 q16 q17 q18 q19 q20 q21 q22 q23 q24 q25)))
abbrev T64 := List T66
def R64 : Rp T64 := Rp.slice R66
abbrev T70 := List T47
def R70 : Rp T70 := Rp.slice R47
abbrev T72 := (Bool) × (Int) × (T34) × (Int)
def R72 : Rp T72 := (Rp.pair Rp.bool (Rp.pair (Rp.int .u64) (Rp.pair R34 (Rp.int .u64))))
theorem R72_inv {o : Bool} {p : Nat → Prop} {h : Hp} {cs : List Value} {x : T72} (r : R72.r o p h cs x) : ∃ (v1 : Value), cs = [.bool x.1, .int .u64 x.2.1, v1, .int .u64 x.2.2.2] ∧ (IntKind.u64.min ≤ x.2.1 ∧ x.2.1 ≤ IntKind.u64.max) ∧ R34.r o p h [v1] x.2.2.1 ∧ (IntKind.u64.min ≤ x.2.2.2 ∧ x.2.2.2 ≤ IntKind.u64.max) := by
  have r0 : (Rp.pair Rp.bool (Rp.pair (Rp.int .u64) (Rp.pair R34 (Rp.int .u64)))).r o p h cs x := r
  obtain ⟨_, _, rfl, f2, g2⟩ := Rp.pair_inv r0
  obtain rfl := Rp.bool_inv f2
  obtain ⟨_, _, rfl, f4, g4⟩ := Rp.pair_inv g2
  obtain ⟨rfl, b5⟩ := Rp.int_inv f4
  obtain ⟨_, _, rfl, f6, g6⟩ := Rp.pair_inv g4
  obtain ⟨w7, rfl⟩ := one_cell rfl f6
  obtain ⟨rfl, b8⟩ := Rp.int_inv g6
  exact ⟨w7, by first | rfl | simp, b5, f6, b8⟩
theorem R72_mk {o : Bool} {p : Nat → Prop} {h : Hp} {x : T72} {w3 : Value} (q2 : IntKind.u64.min ≤ x.2.1 ∧ x.2.1 ≤ IntKind.u64.max) (q3 : R34.r o p h [w3] x.2.2.1) (q4 : IntKind.u64.min ≤ x.2.2.2 ∧ x.2.2.2 ≤ IntKind.u64.max) : R72.r o p h ([.bool x.1, .int .u64 x.2.1, w3, .int .u64 x.2.2.2]) x := by
  have e : ([.bool x.1, .int .u64 x.2.1, w3, .int .u64 x.2.2.2] : List Value) = ([.bool x.1] ++ ([.int .u64 x.2.1] ++ ([w3] ++ [.int .u64 x.2.2.2]))) := by first | rfl | simp
  rw [e]
  exact (Rp.pair_mk Rp.bool_mk (Rp.pair_mk (Rp.int_mk q2) (Rp.pair_mk q3 (Rp.int_mk q4))))
abbrev T135 := (Int) × (T33) × (T34)
def R135 : Rp T135 := (Rp.pair (Rp.int .u64) (Rp.pair R33 R34))
theorem R135_inv {o : Bool} {p : Nat → Prop} {h : Hp} {cs : List Value} {x : T135} (r : R135.r o p h cs x) : ∃ (v1 : Value) (v2 : Value), cs = [.int .u64 x.1, .int .u64 x.2.1.1.1, .int .u64 x.2.1.1.2, v1, .int .u32 x.2.1.2.2.1.1, .int .u64 x.2.1.2.2.1.2, .int .u32 x.2.1.2.2.2.1.1, .int .u64 x.2.1.2.2.2.1.2, .int .u32 x.2.1.2.2.2.2.1, .int .u64 x.2.1.2.2.2.2.2, v2] ∧ (IntKind.u64.min ≤ x.1 ∧ x.1 ≤ IntKind.u64.max) ∧ (IntKind.u64.min ≤ x.2.1.1.1 ∧ x.2.1.1.1 ≤ IntKind.u64.max) ∧ (IntKind.u64.min ≤ x.2.1.1.2 ∧ x.2.1.1.2 ≤ IntKind.u64.max) ∧ R25.r o p h [v1] x.2.1.2.1 ∧ (IntKind.u32.min ≤ x.2.1.2.2.1.1 ∧ x.2.1.2.2.1.1 ≤ IntKind.u32.max) ∧ (IntKind.u64.min ≤ x.2.1.2.2.1.2 ∧ x.2.1.2.2.1.2 ≤ IntKind.u64.max) ∧ (IntKind.u32.min ≤ x.2.1.2.2.2.1.1 ∧ x.2.1.2.2.2.1.1 ≤ IntKind.u32.max) ∧ (IntKind.u64.min ≤ x.2.1.2.2.2.1.2 ∧ x.2.1.2.2.2.1.2 ≤ IntKind.u64.max) ∧ (IntKind.u32.min ≤ x.2.1.2.2.2.2.1 ∧ x.2.1.2.2.2.2.1 ≤ IntKind.u32.max) ∧ (IntKind.u64.min ≤ x.2.1.2.2.2.2.2 ∧ x.2.1.2.2.2.2.2 ≤ IntKind.u64.max) ∧ R34.r o p h [v2] x.2.2 := by
  have r0 : (Rp.pair (Rp.int .u64) (Rp.pair R33 R34)).r o p h cs x := r
  obtain ⟨_, _, rfl, f2, g2⟩ := Rp.pair_inv r0
  obtain ⟨rfl, b3⟩ := Rp.int_inv f2
  obtain ⟨_, _, rfl, f4, g4⟩ := Rp.pair_inv g2
  obtain ⟨w8, rfl, b6, b7, h8, b9, b10, b11, b12, b13, b14⟩ := R33_inv f4
  obtain ⟨w15, rfl⟩ := one_cell rfl g4
  exact ⟨w8, w15, by first | rfl | simp, b3, b6, b7, h8, b9, b10, b11, b12, b13, b14, g4⟩
theorem R135_mk {o : Bool} {p : Nat → Prop} {h : Hp} {x : T135} {w4 : Value} {w11 : Value} (q1 : IntKind.u64.min ≤ x.1 ∧ x.1 ≤ IntKind.u64.max) (q2 : IntKind.u64.min ≤ x.2.1.1.1 ∧ x.2.1.1.1 ≤ IntKind.u64.max) (q3 : IntKind.u64.min ≤ x.2.1.1.2 ∧ x.2.1.1.2 ≤ IntKind.u64.max) (q4 : R25.r o p h [w4] x.2.1.2.1) (q5 : IntKind.u32.min ≤ x.2.1.2.2.1.1 ∧ x.2.1.2.2.1.1 ≤ IntKind.u32.max) (q6 : IntKind.u64.min ≤ x.2.1.2.2.1.2 ∧ x.2.1.2.2.1.2 ≤ IntKind.u64.max) (q7 : IntKind.u32.min ≤ x.2.1.2.2.2.1.1 ∧ x.2.1.2.2.2.1.1 ≤ IntKind.u32.max) (q8 : IntKind.u64.min ≤ x.2.1.2.2.2.1.2 ∧ x.2.1.2.2.2.1.2 ≤ IntKind.u64.max) (q9 : IntKind.u32.min ≤ x.2.1.2.2.2.2.1 ∧ x.2.1.2.2.2.2.1 ≤ IntKind.u32.max) (q10 : IntKind.u64.min ≤ x.2.1.2.2.2.2.2 ∧ x.2.1.2.2.2.2.2 ≤ IntKind.u64.max) (q11 : R34.r o p h [w11] x.2.2) : R135.r o p h ([.int .u64 x.1, .int .u64 x.2.1.1.1, .int .u64 x.2.1.1.2, w4, .int .u32 x.2.1.2.2.1.1, .int .u64 x.2.1.2.2.1.2, .int .u32 x.2.1.2.2.2.1.1, .int .u64 x.2.1.2.2.2.1.2, .int .u32 x.2.1.2.2.2.2.1, .int .u64 x.2.1.2.2.2.2.2, w11]) x := by
  have e : ([.int .u64 x.1, .int .u64 x.2.1.1.1, .int .u64 x.2.1.1.2, w4, .int .u32 x.2.1.2.2.1.1, .int .u64 x.2.1.2.2.1.2, .int .u32 x.2.1.2.2.2.1.1, .int .u64 x.2.1.2.2.2.1.2, .int .u32 x.2.1.2.2.2.2.1, .int .u64 x.2.1.2.2.2.2.2, w11] : List Value) = ([.int .u64 x.1] ++ (([.int .u64 x.2.1.1.1, .int .u64 x.2.1.1.2, w4, .int .u32 x.2.1.2.2.1.1, .int .u64 x.2.1.2.2.1.2, .int .u32 x.2.1.2.2.2.1.1, .int .u64 x.2.1.2.2.2.1.2, .int .u32 x.2.1.2.2.2.2.1, .int .u64 x.2.1.2.2.2.2.2]) ++ [w11])) := by first | rfl | simp
  rw [e]
  exact (Rp.pair_mk (Rp.int_mk q1) (Rp.pair_mk (R33_mk (x := x.2.1) q2 q3 q4 q5 q6 q7 q8 q9 q10) q11))
theorem lies24_10 : LiesRp Try.prog 10 24 R24 := liesRp_struct (fs := #[(Field.mk "Index" 22 0 Bool.false "" "" 0), (Field.mk "Epoch" 22 1 Bool.false "" "" 8)]) (by kernel_rfl) (liesRpF_cons (liesRp_int (by kernel_rfl)) (liesRpF_last (liesRp_int (by kernel_rfl))))
theorem lies61_8 : LiesRp Try.prog 8 61 R61 := liesRp_flat (k := K61) (by kernel_rfl) (by decide)
theorem lies25_9 : LiesRp Try.prog 9 25 R25 := liesRp_slice (e := 61) (by kernel_rfl) lies61_8 (by rw [show Try.prog.bytesOf 61 = 56 from by kernel_rfl]; decide)
theorem lies27_10 : LiesRp Try.prog 10 27 R27 := liesRp_struct (fs := #[(Field.mk "Routes" 25 0 Bool.false "" "" 0)]) (by kernel_rfl) (liesRpF_last lies25_9)
theorem lies30_9 : LiesRp Try.prog 9 30 R30 := liesRp_struct (fs := #[(Field.mk "Seq" 28 0 Bool.false "" "" 0), (Field.mk "Index" 22 1 Bool.false "" "" 8)]) (by kernel_rfl) (liesRpF_cons (liesRp_int (by kernel_rfl)) (liesRpF_last (liesRp_int (by kernel_rfl))))
theorem lies31_10 : LiesRp Try.prog 10 31 R31 := liesRp_arr (n := 3) (e := 30) (by kernel_rfl) (liesRpA_cons lies30_9 (liesRpA_cons lies30_9 (liesRpA_last lies30_9)))
theorem lies33_11 : LiesRp Try.prog 11 33 R33 := liesRp_struct (fs := #[(Field.mk "At" 24 0 Bool.false "" "" 0), (Field.mk "Rib" 27 2 Bool.false "" "" 16), (Field.mk "Last" 31 3 Bool.false "" "" 40)]) (by kernel_rfl) (liesRpF_cons lies24_10 (liesRpF_cons lies27_10 (liesRpF_last lies31_10)))
theorem lies139_7 : LiesRp Try.prog 7 139 R139 := liesRp_flat (k := K139) (by kernel_rfl) (by decide)
theorem lies43_8 : LiesRp Try.prog 8 43 R43 := liesRp_slice (e := 139) (by kernel_rfl) lies139_7 (by rw [show Try.prog.bytesOf 139 = 64 from by kernel_rfl]; decide)
theorem lies45_9 : LiesRp Try.prog 9 45 R45 := liesRp_struct (fs := #[(Field.mk "Updates" 43 0 Bool.false "" "" 0)]) (by kernel_rfl) (liesRpF_last lies43_8)
theorem lies85_10 : LiesRp Try.prog 10 85 R85 := liesRp_struct (fs := #[(Field.mk "Epoch" 22 0 Bool.false "" "" 0), (Field.mk "Client" 3 1 Bool.false "" "" 8), (Field.mk "Seq" 28 2 Bool.false "" "" 16), (Field.mk "Batch" 45 3 Bool.false "" "" 24)]) (by kernel_rfl) (liesRpF_cons (liesRp_int (by kernel_rfl)) (liesRpF_cons (liesRp_int (by kernel_rfl)) (liesRpF_cons (liesRp_int (by kernel_rfl)) (liesRpF_last lies45_9))))
theorem lies34_11 : LiesRp Try.prog 11 34 R34 := liesRp_slice (e := 85) (by kernel_rfl) lies85_10 (by rw [show Try.prog.bytesOf 85 = 48 from by kernel_rfl]; decide)
theorem lies36_12 : LiesRp Try.prog 12 36 R36 := liesRp_struct (fs := #[(Field.mk "Vow" 22 0 Bool.false "" "" 0), (Field.mk "Base" 33 1 Bool.false "" "" 8), (Field.mk "Entries" 34 10 Bool.false "" "" 96)]) (by kernel_rfl) (liesRpF_cons (liesRp_int (by kernel_rfl)) (liesRpF_cons lies33_11 (liesRpF_last lies34_11)))
theorem lies24_11 : LiesRp Try.prog 11 24 R24 := liesRp_struct (fs := #[(Field.mk "Index" 22 0 Bool.false "" "" 0), (Field.mk "Epoch" 22 1 Bool.false "" "" 8)]) (by kernel_rfl) (liesRpF_cons (liesRp_int (by kernel_rfl)) (liesRpF_last (liesRp_int (by kernel_rfl))))
theorem lies139_9 : LiesRp Try.prog 9 139 R139 := liesRp_flat (k := K139) (by kernel_rfl) (by decide)
theorem lies43_10 : LiesRp Try.prog 10 43 R43 := liesRp_slice (e := 139) (by kernel_rfl) lies139_9 (by rw [show Try.prog.bytesOf 139 = 64 from by kernel_rfl]; decide)
theorem lies45_11 : LiesRp Try.prog 11 45 R45 := liesRp_struct (fs := #[(Field.mk "Updates" 43 0 Bool.false "" "" 0)]) (by kernel_rfl) (liesRpF_last lies43_10)
theorem lies47_12 : LiesRp Try.prog 12 47 R47 := liesRp_struct (fs := #[(Field.mk "Kind" 3 0 Bool.false "" "" 0), (Field.mk "From" 3 1 Bool.false "" "" 8), (Field.mk "To" 3 2 Bool.false "" "" 16), (Field.mk "Epoch" 22 3 Bool.false "" "" 24), (Field.mk "Prev" 24 4 Bool.false "" "" 32), (Field.mk "Entries" 34 6 Bool.false "" "" 48), (Field.mk "Done" 22 7 Bool.false "" "" 72), (Field.mk "Ok" 4 8 Bool.false "" "" 80), (Field.mk "Index" 22 9 Bool.false "" "" 88), (Field.mk "Stamp" 22 10 Bool.false "" "" 96), (Field.mk "Base" 33 11 Bool.false "" "" 104), (Field.mk "Seq" 28 20 Bool.false "" "" 192), (Field.mk "Batch" 45 21 Bool.false "" "" 200), (Field.mk "Err" 41 22 Bool.false "" "" 224)]) (by kernel_rfl) (liesRpF_cons (liesRp_int (by kernel_rfl)) (liesRpF_cons (liesRp_int (by kernel_rfl)) (liesRpF_cons (liesRp_int (by kernel_rfl)) (liesRpF_cons (liesRp_int (by kernel_rfl)) (liesRpF_cons lies24_11 (liesRpF_cons lies34_11 (liesRpF_cons (liesRp_int (by kernel_rfl)) (liesRpF_cons (liesRp_bool (by kernel_rfl)) (liesRpF_cons (liesRp_int (by kernel_rfl)) (liesRpF_cons (liesRp_int (by kernel_rfl)) (liesRpF_cons lies33_11 (liesRpF_cons (liesRp_int (by kernel_rfl)) (liesRpF_cons lies45_11 (liesRpF_last (liesRp_int (by kernel_rfl))))))))))))))))
theorem lies37_12 : LiesRp Try.prog 12 37 R37 := liesRp_slice (e := 22) (by kernel_rfl) (liesRp_int (by kernel_rfl)) (by rw [show Try.prog.bytesOf 22 = 8 from by kernel_rfl]; decide)
theorem lies24_9 : LiesRp Try.prog 9 24 R24 := liesRp_struct (fs := #[(Field.mk "Index" 22 0 Bool.false "" "" 0), (Field.mk "Epoch" 22 1 Bool.false "" "" 8)]) (by kernel_rfl) (liesRpF_cons (liesRp_int (by kernel_rfl)) (liesRpF_last (liesRp_int (by kernel_rfl))))
theorem lies139_5 : LiesRp Try.prog 5 139 R139 := liesRp_flat (k := K139) (by kernel_rfl) (by decide)
theorem lies43_6 : LiesRp Try.prog 6 43 R43 := liesRp_slice (e := 139) (by kernel_rfl) lies139_5 (by rw [show Try.prog.bytesOf 139 = 64 from by kernel_rfl]; decide)
theorem lies45_7 : LiesRp Try.prog 7 45 R45 := liesRp_struct (fs := #[(Field.mk "Updates" 43 0 Bool.false "" "" 0)]) (by kernel_rfl) (liesRpF_last lies43_6)
theorem lies85_8 : LiesRp Try.prog 8 85 R85 := liesRp_struct (fs := #[(Field.mk "Epoch" 22 0 Bool.false "" "" 0), (Field.mk "Client" 3 1 Bool.false "" "" 8), (Field.mk "Seq" 28 2 Bool.false "" "" 16), (Field.mk "Batch" 45 3 Bool.false "" "" 24)]) (by kernel_rfl) (liesRpF_cons (liesRp_int (by kernel_rfl)) (liesRpF_cons (liesRp_int (by kernel_rfl)) (liesRpF_cons (liesRp_int (by kernel_rfl)) (liesRpF_last lies45_7))))
theorem lies34_9 : LiesRp Try.prog 9 34 R34 := liesRp_slice (e := 85) (by kernel_rfl) lies85_8 (by rw [show Try.prog.bytesOf 85 = 48 from by kernel_rfl]; decide)
theorem lies24_8 : LiesRp Try.prog 8 24 R24 := liesRp_struct (fs := #[(Field.mk "Index" 22 0 Bool.false "" "" 0), (Field.mk "Epoch" 22 1 Bool.false "" "" 8)]) (by kernel_rfl) (liesRpF_cons (liesRp_int (by kernel_rfl)) (liesRpF_last (liesRp_int (by kernel_rfl))))
theorem lies61_6 : LiesRp Try.prog 6 61 R61 := liesRp_flat (k := K61) (by kernel_rfl) (by decide)
theorem lies25_7 : LiesRp Try.prog 7 25 R25 := liesRp_slice (e := 61) (by kernel_rfl) lies61_6 (by rw [show Try.prog.bytesOf 61 = 56 from by kernel_rfl]; decide)
theorem lies27_8 : LiesRp Try.prog 8 27 R27 := liesRp_struct (fs := #[(Field.mk "Routes" 25 0 Bool.false "" "" 0)]) (by kernel_rfl) (liesRpF_last lies25_7)
theorem lies30_7 : LiesRp Try.prog 7 30 R30 := liesRp_struct (fs := #[(Field.mk "Seq" 28 0 Bool.false "" "" 0), (Field.mk "Index" 22 1 Bool.false "" "" 8)]) (by kernel_rfl) (liesRpF_cons (liesRp_int (by kernel_rfl)) (liesRpF_last (liesRp_int (by kernel_rfl))))
theorem lies31_8 : LiesRp Try.prog 8 31 R31 := liesRp_arr (n := 3) (e := 30) (by kernel_rfl) (liesRpA_cons lies30_7 (liesRpA_cons lies30_7 (liesRpA_last lies30_7)))
theorem lies33_9 : LiesRp Try.prog 9 33 R33 := liesRp_struct (fs := #[(Field.mk "At" 24 0 Bool.false "" "" 0), (Field.mk "Rib" 27 2 Bool.false "" "" 16), (Field.mk "Last" 31 3 Bool.false "" "" 40)]) (by kernel_rfl) (liesRpF_cons lies24_8 (liesRpF_cons lies27_8 (liesRpF_last lies31_8)))
theorem lies47_10 : LiesRp Try.prog 10 47 R47 := liesRp_struct (fs := #[(Field.mk "Kind" 3 0 Bool.false "" "" 0), (Field.mk "From" 3 1 Bool.false "" "" 8), (Field.mk "To" 3 2 Bool.false "" "" 16), (Field.mk "Epoch" 22 3 Bool.false "" "" 24), (Field.mk "Prev" 24 4 Bool.false "" "" 32), (Field.mk "Entries" 34 6 Bool.false "" "" 48), (Field.mk "Done" 22 7 Bool.false "" "" 72), (Field.mk "Ok" 4 8 Bool.false "" "" 80), (Field.mk "Index" 22 9 Bool.false "" "" 88), (Field.mk "Stamp" 22 10 Bool.false "" "" 96), (Field.mk "Base" 33 11 Bool.false "" "" 104), (Field.mk "Seq" 28 20 Bool.false "" "" 192), (Field.mk "Batch" 45 21 Bool.false "" "" 200), (Field.mk "Err" 41 22 Bool.false "" "" 224)]) (by kernel_rfl) (liesRpF_cons (liesRp_int (by kernel_rfl)) (liesRpF_cons (liesRp_int (by kernel_rfl)) (liesRpF_cons (liesRp_int (by kernel_rfl)) (liesRpF_cons (liesRp_int (by kernel_rfl)) (liesRpF_cons lies24_9 (liesRpF_cons lies34_9 (liesRpF_cons (liesRp_int (by kernel_rfl)) (liesRpF_cons (liesRp_bool (by kernel_rfl)) (liesRpF_cons (liesRp_int (by kernel_rfl)) (liesRpF_cons (liesRp_int (by kernel_rfl)) (liesRpF_cons lies33_9 (liesRpF_cons (liesRp_int (by kernel_rfl)) (liesRpF_cons lies45_9 (liesRpF_last (liesRp_int (by kernel_rfl))))))))))))))))
theorem lies66_11 : LiesRp Try.prog 11 66 R66 := liesRp_struct (fs := #[(Field.mk "Match" 22 0 Bool.false "" "" 0), (Field.mk "Last" 22 1 Bool.false "" "" 8), (Field.mk "Msg" 47 2 Bool.false "" "" 16)]) (by kernel_rfl) (liesRpF_cons (liesRp_int (by kernel_rfl)) (liesRpF_cons (liesRp_int (by kernel_rfl)) (liesRpF_last lies47_10)))
theorem lies64_12 : LiesRp Try.prog 12 64 R64 := liesRp_slice (e := 66) (by kernel_rfl) lies66_11 (by rw [show Try.prog.bytesOf 66 = 248 from by kernel_rfl]; decide)
theorem lies139_6 : LiesRp Try.prog 6 139 R139 := liesRp_flat (k := K139) (by kernel_rfl) (by decide)
theorem lies43_7 : LiesRp Try.prog 7 43 R43 := liesRp_slice (e := 139) (by kernel_rfl) lies139_6 (by rw [show Try.prog.bytesOf 139 = 64 from by kernel_rfl]; decide)
theorem lies45_8 : LiesRp Try.prog 8 45 R45 := liesRp_struct (fs := #[(Field.mk "Updates" 43 0 Bool.false "" "" 0)]) (by kernel_rfl) (liesRpF_last lies43_7)
theorem lies85_9 : LiesRp Try.prog 9 85 R85 := liesRp_struct (fs := #[(Field.mk "Epoch" 22 0 Bool.false "" "" 0), (Field.mk "Client" 3 1 Bool.false "" "" 8), (Field.mk "Seq" 28 2 Bool.false "" "" 16), (Field.mk "Batch" 45 3 Bool.false "" "" 24)]) (by kernel_rfl) (liesRpF_cons (liesRp_int (by kernel_rfl)) (liesRpF_cons (liesRp_int (by kernel_rfl)) (liesRpF_cons (liesRp_int (by kernel_rfl)) (liesRpF_last lies45_8))))
theorem lies34_10 : LiesRp Try.prog 10 34 R34 := liesRp_slice (e := 85) (by kernel_rfl) lies85_9 (by rw [show Try.prog.bytesOf 85 = 48 from by kernel_rfl]; decide)
theorem lies61_7 : LiesRp Try.prog 7 61 R61 := liesRp_flat (k := K61) (by kernel_rfl) (by decide)
theorem lies25_8 : LiesRp Try.prog 8 25 R25 := liesRp_slice (e := 61) (by kernel_rfl) lies61_7 (by rw [show Try.prog.bytesOf 61 = 56 from by kernel_rfl]; decide)
theorem lies27_9 : LiesRp Try.prog 9 27 R27 := liesRp_struct (fs := #[(Field.mk "Routes" 25 0 Bool.false "" "" 0)]) (by kernel_rfl) (liesRpF_last lies25_8)
theorem lies30_8 : LiesRp Try.prog 8 30 R30 := liesRp_struct (fs := #[(Field.mk "Seq" 28 0 Bool.false "" "" 0), (Field.mk "Index" 22 1 Bool.false "" "" 8)]) (by kernel_rfl) (liesRpF_cons (liesRp_int (by kernel_rfl)) (liesRpF_last (liesRp_int (by kernel_rfl))))
theorem lies31_9 : LiesRp Try.prog 9 31 R31 := liesRp_arr (n := 3) (e := 30) (by kernel_rfl) (liesRpA_cons lies30_8 (liesRpA_cons lies30_8 (liesRpA_last lies30_8)))
theorem lies33_10 : LiesRp Try.prog 10 33 R33 := liesRp_struct (fs := #[(Field.mk "At" 24 0 Bool.false "" "" 0), (Field.mk "Rib" 27 2 Bool.false "" "" 16), (Field.mk "Last" 31 3 Bool.false "" "" 40)]) (by kernel_rfl) (liesRpF_cons lies24_9 (liesRpF_cons lies27_9 (liesRpF_last lies31_9)))
theorem lies139_8 : LiesRp Try.prog 8 139 R139 := liesRp_flat (k := K139) (by kernel_rfl) (by decide)
theorem lies43_9 : LiesRp Try.prog 9 43 R43 := liesRp_slice (e := 139) (by kernel_rfl) lies139_8 (by rw [show Try.prog.bytesOf 139 = 64 from by kernel_rfl]; decide)
theorem lies45_10 : LiesRp Try.prog 10 45 R45 := liesRp_struct (fs := #[(Field.mk "Updates" 43 0 Bool.false "" "" 0)]) (by kernel_rfl) (liesRpF_last lies43_9)
theorem lies47_11 : LiesRp Try.prog 11 47 R47 := liesRp_struct (fs := #[(Field.mk "Kind" 3 0 Bool.false "" "" 0), (Field.mk "From" 3 1 Bool.false "" "" 8), (Field.mk "To" 3 2 Bool.false "" "" 16), (Field.mk "Epoch" 22 3 Bool.false "" "" 24), (Field.mk "Prev" 24 4 Bool.false "" "" 32), (Field.mk "Entries" 34 6 Bool.false "" "" 48), (Field.mk "Done" 22 7 Bool.false "" "" 72), (Field.mk "Ok" 4 8 Bool.false "" "" 80), (Field.mk "Index" 22 9 Bool.false "" "" 88), (Field.mk "Stamp" 22 10 Bool.false "" "" 96), (Field.mk "Base" 33 11 Bool.false "" "" 104), (Field.mk "Seq" 28 20 Bool.false "" "" 192), (Field.mk "Batch" 45 21 Bool.false "" "" 200), (Field.mk "Err" 41 22 Bool.false "" "" 224)]) (by kernel_rfl) (liesRpF_cons (liesRp_int (by kernel_rfl)) (liesRpF_cons (liesRp_int (by kernel_rfl)) (liesRpF_cons (liesRp_int (by kernel_rfl)) (liesRpF_cons (liesRp_int (by kernel_rfl)) (liesRpF_cons lies24_10 (liesRpF_cons lies34_10 (liesRpF_cons (liesRp_int (by kernel_rfl)) (liesRpF_cons (liesRp_bool (by kernel_rfl)) (liesRpF_cons (liesRp_int (by kernel_rfl)) (liesRpF_cons (liesRp_int (by kernel_rfl)) (liesRpF_cons lies33_10 (liesRpF_cons (liesRp_int (by kernel_rfl)) (liesRpF_cons lies45_10 (liesRpF_last (liesRp_int (by kernel_rfl))))))))))))))))
theorem lies70_12 : LiesRp Try.prog 12 70 R70 := liesRp_slice (e := 47) (by kernel_rfl) lies47_11 (by rw [show Try.prog.bytesOf 47 = 232 from by kernel_rfl]; decide)
end Go.Abs.B1
