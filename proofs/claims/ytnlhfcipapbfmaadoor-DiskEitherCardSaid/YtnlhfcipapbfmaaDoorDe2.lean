/- How the data of the disk lie: printed by rps.py. -/
import Derived.Test.YtnlhfcipapbfmaaDoorDs0
import Derived.Test.YtnlhfcipapbfmaaDoorDs0t
import Derived.Test.YtnlhfcipapbfmaaDoorAbsE
namespace Go.Abs.B1d
open Go.Proofs
set_option linter.all false
abbrev T23 := List Bool
def R23 : Rp T23 := Rp.slice Rp.bool
abbrev T42 := (Int) × (Int) × (Int) × (Int) × (T23)
def R42 : Rp T42 := (Rp.pair (Rp.int .i64) (Rp.pair (Rp.int .i64) (Rp.pair (Rp.int .i64) (Rp.pair (Rp.int .u8) R23))))
theorem R42_inv {o : Bool} {p : Nat → Prop} {h : Hp} {cs : List Value} {x : T42} (r : R42.r o p h cs x) : ∃ (v1 : Value), cs = [.int .i64 x.1, .int .i64 x.2.1, .int .i64 x.2.2.1, .int .u8 x.2.2.2.1, v1] ∧ (IntKind.i64.min ≤ x.1 ∧ x.1 ≤ IntKind.i64.max) ∧ (IntKind.i64.min ≤ x.2.1 ∧ x.2.1 ≤ IntKind.i64.max) ∧ (IntKind.i64.min ≤ x.2.2.1 ∧ x.2.2.1 ≤ IntKind.i64.max) ∧ (IntKind.u8.min ≤ x.2.2.2.1 ∧ x.2.2.2.1 ≤ IntKind.u8.max) ∧ R23.r o p h [v1] x.2.2.2.2 := by
  have r0 : (Rp.pair (Rp.int .i64) (Rp.pair (Rp.int .i64) (Rp.pair (Rp.int .i64) (Rp.pair (Rp.int .u8) R23)))).r o p h cs x := r
  obtain ⟨_, _, rfl, f2, g2⟩ := Rp.pair_inv r0
  obtain ⟨rfl, b3⟩ := Rp.int_inv f2
  obtain ⟨_, _, rfl, f4, g4⟩ := Rp.pair_inv g2
  obtain ⟨rfl, b5⟩ := Rp.int_inv f4
  obtain ⟨_, _, rfl, f6, g6⟩ := Rp.pair_inv g4
  obtain ⟨rfl, b7⟩ := Rp.int_inv f6
  obtain ⟨_, _, rfl, f8, g8⟩ := Rp.pair_inv g6
  obtain ⟨rfl, b9⟩ := Rp.int_inv f8
  obtain ⟨w10, rfl⟩ := one_cell rfl g8
  exact ⟨w10, by first | rfl | simp, b3, b5, b7, b9, g8⟩
theorem R42_mk {o : Bool} {p : Nat → Prop} {h : Hp} {x : T42} {w5 : Value} (q1 : IntKind.i64.min ≤ x.1 ∧ x.1 ≤ IntKind.i64.max) (q2 : IntKind.i64.min ≤ x.2.1 ∧ x.2.1 ≤ IntKind.i64.max) (q3 : IntKind.i64.min ≤ x.2.2.1 ∧ x.2.2.1 ≤ IntKind.i64.max) (q4 : IntKind.u8.min ≤ x.2.2.2.1 ∧ x.2.2.2.1 ≤ IntKind.u8.max) (q5 : R23.r o p h [w5] x.2.2.2.2) : R42.r o p h ([.int .i64 x.1, .int .i64 x.2.1, .int .i64 x.2.2.1, .int .u8 x.2.2.2.1, w5]) x := by
  have e : ([.int .i64 x.1, .int .i64 x.2.1, .int .i64 x.2.2.1, .int .u8 x.2.2.2.1, w5] : List Value) = ([.int .i64 x.1] ++ ([.int .i64 x.2.1] ++ ([.int .i64 x.2.2.1] ++ ([.int .u8 x.2.2.2.1] ++ [w5])))) := by first | rfl | simp
  rw [e]
  exact (Rp.pair_mk (Rp.int_mk q1) (Rp.pair_mk (Rp.int_mk q2) (Rp.pair_mk (Rp.int_mk q3) (Rp.pair_mk (Rp.int_mk q4) q5))))
abbrev T22 := List T42
def R22 : Rp T22 := Rp.slice R42
abbrev T29 := List Value
abbrev K29 : List Sc := [.int .u8, .int .u8, .int .u8, .int .u8, .int .u8, .int .u8, .int .u8, .int .u8, .int .u8, .int .u8, .int .u8, .int .u8, .int .u8, .int .u8, .int .u8, .int .u8, .int .u8, .int .u8, .int .u8, .int .u8, .int .u8, .int .u8, .int .u8, .int .u8, .int .u8, .int .u8, .int .u8, .int .u8, .int .u8, .int .u8, .int .u8, .int .u8, .int .u8, .int .u8, .int .u8, .int .u8, .int .u8, .int .u8, .int .u8, .int .u8, .int .u8, .int .u8, .int .u8, .int .u8, .int .u8, .int .u8, .int .u8, .int .u8, .int .u8, .int .u8, .int .u8, .int .u8, .int .u8, .int .u8, .int .u8, .int .u8, .int .u8, .int .u8, .int .u8, .int .u8, .int .u8, .int .u8, .int .u8, .int .u8]
def R29 : Rp T29 := Rp.flat K29
abbrev T66 := List T29
def R66 : Rp T66 := Rp.slice R29
abbrev T62 := (Int) × (T29)
def R62 : Rp T62 := (Rp.pair (Rp.int .i64) R29)
theorem R62_inv {o : Bool} {p : Nat → Prop} {h : Hp} {cs : List Value} {x : T62} (r : R62.r o p h cs x) : ∃ (l1 : List Value), cs = [.int .i64 x.1] ++ l1 ∧ (IntKind.i64.min ≤ x.1 ∧ x.1 ≤ IntKind.i64.max) ∧ R29.r o p h l1 x.2 := by
  have r0 : (Rp.pair (Rp.int .i64) R29).r o p h cs x := r
  obtain ⟨_, _, rfl, f2, g2⟩ := Rp.pair_inv r0
  obtain ⟨rfl, b3⟩ := Rp.int_inv f2
  exact ⟨_, by first | rfl | simp, b3, g2⟩
theorem R62_mk {o : Bool} {p : Nat → Prop} {h : Hp} {x : T62} {w2 : List Value} (q1 : IntKind.i64.min ≤ x.1 ∧ x.1 ≤ IntKind.i64.max) (q2 : R29.r o p h w2 x.2) : R62.r o p h ([.int .i64 x.1] ++ w2) x := by
  have e : ([.int .i64 x.1] ++ w2 : List Value) = ([.int .i64 x.1] ++ w2) := by first | rfl | simp
  rw [e]
  exact (Rp.pair_mk (Rp.int_mk q1) q2)
abbrev T67 := List T62
def R67 : Rp T67 := Rp.slice R62
theorem lies23_10 : LiesRp Tryd.prog 10 23 R23 := liesRp_slice (e := 4) (by kernel_rfl) (liesRp_bool (by kernel_rfl)) (by rw [show Tryd.prog.bytesOf 4 = 1 from by kernel_rfl]; decide)
theorem lies42_11 : LiesRp Tryd.prog 11 42 R42 := liesRp_struct (fs := #[(Field.mk "Kind" 3 0 Bool.false "" "" 0), (Field.mk "Sector" 3 1 Bool.false "" "" 8), (Field.mk "N" 3 2 Bool.false "" "" 16), (Field.mk "Fill" 5 3 Bool.false "" "" 24), (Field.mk "Keep" 23 4 Bool.false "" "" 32)]) (by kernel_rfl) (liesRpF_cons (liesRp_int (by kernel_rfl)) (liesRpF_cons (liesRp_int (by kernel_rfl)) (liesRpF_cons (liesRp_int (by kernel_rfl)) (liesRpF_cons (liesRp_int (by kernel_rfl)) (liesRpF_last lies23_10)))))
theorem lies22_12 : LiesRp Tryd.prog 12 22 R22 := liesRp_slice (e := 42) (by kernel_rfl) lies42_11 (by rw [show Tryd.prog.bytesOf 42 = 56 from by kernel_rfl]; decide)
end Go.Abs.B1d
