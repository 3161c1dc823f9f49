/- How the data of the disk lie: printed by rps.py. -/
import Derived.Test.YtnlhfcipapbfmaaSh0
import Derived.Test.YtnlhfcipapbfmaaSh0t
import Derived.Test.YtnlhfcipapbfmaaAbsE
namespace Go.Abs.B1
open Go.Proofs
set_option linter.all false
abbrev T92 := List Bool
def R92 : Rp T92 := Rp.slice Rp.bool
abbrev T94 := (Int) × (Int) × (Int) × (Int) × (T92)
def R94 : Rp T94 := (Rp.pair (Rp.int .i64) (Rp.pair (Rp.int .i64) (Rp.pair (Rp.int .i64) (Rp.pair (Rp.int .u8) R92))))
theorem R94_inv {o : Bool} {p : Nat → Prop} {h : Hp} {cs : List Value} {x : T94} (r : R94.r o p h cs x) : ∃ (v1 : Value), cs = [.int .i64 x.1, .int .i64 x.2.1, .int .i64 x.2.2.1, .int .u8 x.2.2.2.1, v1] ∧ (IntKind.i64.min ≤ x.1 ∧ x.1 ≤ IntKind.i64.max) ∧ (IntKind.i64.min ≤ x.2.1 ∧ x.2.1 ≤ IntKind.i64.max) ∧ (IntKind.i64.min ≤ x.2.2.1 ∧ x.2.2.1 ≤ IntKind.i64.max) ∧ (IntKind.u8.min ≤ x.2.2.2.1 ∧ x.2.2.2.1 ≤ IntKind.u8.max) ∧ R92.r o p h [v1] x.2.2.2.2 := by
  have r0 : (Rp.pair (Rp.int .i64) (Rp.pair (Rp.int .i64) (Rp.pair (Rp.int .i64) (Rp.pair (Rp.int .u8) R92)))).r o p h cs x := r
  obtain ⟨_, _, rfl, f2, g2⟩ := Rp.pair_inv r0
  obtain ⟨rfl, b3⟩ := Rp.int_inv f2
  obtain ⟨_, _, rfl, f4, g4⟩ := Rp.pair_inv g2
  obtain ⟨rfl, b5⟩ := Rp.int_inv f4
  obtain ⟨_, _, rfl, f6, g6⟩ := Rp.pair_inv g4
  obtain ⟨rfl, b7⟩ := Rp.int_inv f6
  obtain ⟨_, _, rfl, f8, g8⟩ := Rp.pair_inv g6
  obtain ⟨rfl, b9⟩ := Rp.int_inv f8
  obtain ⟨w10, rfl⟩ := one_cell rfl g8
  exact ⟨w10, by first | rfl | simp, b3, b5, b7, b9, g8⟩
theorem R94_mk {o : Bool} {p : Nat → Prop} {h : Hp} {x : T94} {w5 : Value} (q1 : IntKind.i64.min ≤ x.1 ∧ x.1 ≤ IntKind.i64.max) (q2 : IntKind.i64.min ≤ x.2.1 ∧ x.2.1 ≤ IntKind.i64.max) (q3 : IntKind.i64.min ≤ x.2.2.1 ∧ x.2.2.1 ≤ IntKind.i64.max) (q4 : IntKind.u8.min ≤ x.2.2.2.1 ∧ x.2.2.2.1 ≤ IntKind.u8.max) (q5 : R92.r o p h [w5] x.2.2.2.2) : R94.r o p h ([.int .i64 x.1, .int .i64 x.2.1, .int .i64 x.2.2.1, .int .u8 x.2.2.2.1, w5]) x := by
  have e : ([.int .i64 x.1, .int .i64 x.2.1, .int .i64 x.2.2.1, .int .u8 x.2.2.2.1, w5] : List Value) = ([.int .i64 x.1] ++ ([.int .i64 x.2.1] ++ ([.int .i64 x.2.2.1] ++ ([.int .u8 x.2.2.2.1] ++ [w5])))) := by first | rfl | simp
  rw [e]
  exact (Rp.pair_mk (Rp.int_mk q1) (Rp.pair_mk (Rp.int_mk q2) (Rp.pair_mk (Rp.int_mk q3) (Rp.pair_mk (Rp.int_mk q4) q5))))
abbrev T88 := List T94
def R88 : Rp T88 := Rp.slice R94
abbrev T98 := List Value
abbrev K98 : List Sc := [.int .u8, .int .u8, .int .u8, .int .u8, .int .u8, .int .u8, .int .u8, .int .u8, .int .u8, .int .u8, .int .u8, .int .u8, .int .u8, .int .u8, .int .u8, .int .u8, .int .u8, .int .u8, .int .u8, .int .u8, .int .u8, .int .u8, .int .u8, .int .u8, .int .u8, .int .u8, .int .u8, .int .u8, .int .u8, .int .u8, .int .u8, .int .u8, .int .u8, .int .u8, .int .u8, .int .u8, .int .u8, .int .u8, .int .u8, .int .u8, .int .u8, .int .u8, .int .u8, .int .u8, .int .u8, .int .u8, .int .u8, .int .u8, .int .u8, .int .u8, .int .u8, .int .u8, .int .u8, .int .u8, .int .u8, .int .u8, .int .u8, .int .u8, .int .u8, .int .u8, .int .u8, .int .u8, .int .u8, .int .u8]
def R98 : Rp T98 := Rp.flat K98
abbrev T110 := List T98
def R110 : Rp T110 := Rp.slice R98
abbrev T167 := (Int) × (T98)
def R167 : Rp T167 := (Rp.pair (Rp.int .i64) R98)
theorem R167_inv {o : Bool} {p : Nat → Prop} {h : Hp} {cs : List Value} {x : T167} (r : R167.r o p h cs x) : ∃ (l1 : List Value), cs = [.int .i64 x.1] ++ l1 ∧ (IntKind.i64.min ≤ x.1 ∧ x.1 ≤ IntKind.i64.max) ∧ R98.r o p h l1 x.2 := by
  have r0 : (Rp.pair (Rp.int .i64) R98).r o p h cs x := r
  obtain ⟨_, _, rfl, f2, g2⟩ := Rp.pair_inv r0
  obtain ⟨rfl, b3⟩ := Rp.int_inv f2
  exact ⟨_, by first | rfl | simp, b3, g2⟩
theorem R167_mk {o : Bool} {p : Nat → Prop} {h : Hp} {x : T167} {w2 : List Value} (q1 : IntKind.i64.min ≤ x.1 ∧ x.1 ≤ IntKind.i64.max) (q2 : R98.r o p h w2 x.2) : R167.r o p h ([.int .i64 x.1] ++ w2) x := by
  have e : ([.int .i64 x.1] ++ w2 : List Value) = ([.int .i64 x.1] ++ w2) := by first | rfl | simp
  rw [e]
  exact (Rp.pair_mk (Rp.int_mk q1) q2)
abbrev T111 := List T167
def R111 : Rp T111 := Rp.slice R167
abbrev T113 := (T110) × (T111) × (Int) × (Int) × (Bool) × (Int)
def R113 : Rp T113 := (Rp.pair R110 (Rp.pair R111 (Rp.pair (Rp.int .i64) (Rp.pair (Rp.int .i64) (Rp.pair Rp.bool (Rp.int .i64))))))
theorem R113_inv {o : Bool} {p : Nat → Prop} {h : Hp} {cs : List Value} {x : T113} (r : R113.r o p h cs x) : ∃ (v1 : Value) (v2 : Value), cs = [v1, v2, .int .i64 x.2.2.1, .int .i64 x.2.2.2.1, .bool x.2.2.2.2.1, .int .i64 x.2.2.2.2.2] ∧ R110.r o p h [v1] x.1 ∧ R111.r o p h [v2] x.2.1 ∧ (IntKind.i64.min ≤ x.2.2.1 ∧ x.2.2.1 ≤ IntKind.i64.max) ∧ (IntKind.i64.min ≤ x.2.2.2.1 ∧ x.2.2.2.1 ≤ IntKind.i64.max) ∧ (IntKind.i64.min ≤ x.2.2.2.2.2 ∧ x.2.2.2.2.2 ≤ IntKind.i64.max) := by
  have r0 : (Rp.pair R110 (Rp.pair R111 (Rp.pair (Rp.int .i64) (Rp.pair (Rp.int .i64) (Rp.pair Rp.bool (Rp.int .i64)))))).r o p h cs x := r
  obtain ⟨_, _, rfl, f2, g2⟩ := Rp.pair_inv r0
  obtain ⟨w3, rfl⟩ := one_cell rfl f2
  obtain ⟨_, _, rfl, f4, g4⟩ := Rp.pair_inv g2
  obtain ⟨w5, rfl⟩ := one_cell rfl f4
  obtain ⟨_, _, rfl, f6, g6⟩ := Rp.pair_inv g4
  obtain ⟨rfl, b7⟩ := Rp.int_inv f6
  obtain ⟨_, _, rfl, f8, g8⟩ := Rp.pair_inv g6
  obtain ⟨rfl, b9⟩ := Rp.int_inv f8
  obtain ⟨_, _, rfl, f10, g10⟩ := Rp.pair_inv g8
  obtain rfl := Rp.bool_inv f10
  obtain ⟨rfl, b12⟩ := Rp.int_inv g10
  exact ⟨w3, w5, by first | rfl | simp, f2, f4, b7, b9, b12⟩
theorem R113_mk {o : Bool} {p : Nat → Prop} {h : Hp} {x : T113} {w1 : Value} {w2 : Value} (q1 : R110.r o p h [w1] x.1) (q2 : R111.r o p h [w2] x.2.1) (q3 : IntKind.i64.min ≤ x.2.2.1 ∧ x.2.2.1 ≤ IntKind.i64.max) (q4 : IntKind.i64.min ≤ x.2.2.2.1 ∧ x.2.2.2.1 ≤ IntKind.i64.max) (q6 : IntKind.i64.min ≤ x.2.2.2.2.2 ∧ x.2.2.2.2.2 ≤ IntKind.i64.max) : R113.r o p h ([w1, w2, .int .i64 x.2.2.1, .int .i64 x.2.2.2.1, .bool x.2.2.2.2.1, .int .i64 x.2.2.2.2.2]) x := by
  have e : ([w1, w2, .int .i64 x.2.2.1, .int .i64 x.2.2.2.1, .bool x.2.2.2.2.1, .int .i64 x.2.2.2.2.2] : List Value) = ([w1] ++ ([w2] ++ ([.int .i64 x.2.2.1] ++ ([.int .i64 x.2.2.2.1] ++ ([.bool x.2.2.2.2.1] ++ [.int .i64 x.2.2.2.2.2]))))) := by first | rfl | simp
  rw [e]
  exact (Rp.pair_mk q1 (Rp.pair_mk q2 (Rp.pair_mk (Rp.int_mk q3) (Rp.pair_mk (Rp.int_mk q4) (Rp.pair_mk Rp.bool_mk (Rp.int_mk q6))))))
theorem lies92_10 : LiesRp Try.prog 10 92 R92 := liesRp_slice (e := 4) (by kernel_rfl) (liesRp_bool (by kernel_rfl)) (by rw [show Try.prog.bytesOf 4 = 1 from by kernel_rfl]; decide)
theorem lies94_11 : LiesRp Try.prog 11 94 R94 := liesRp_struct (fs := #[(Field.mk "Kind" 3 0 Bool.false "" "" 0), (Field.mk "Sector" 3 1 Bool.false "" "" 8), (Field.mk "N" 3 2 Bool.false "" "" 16), (Field.mk "Fill" 5 3 Bool.false "" "" 24), (Field.mk "Keep" 92 4 Bool.false "" "" 32)]) (by kernel_rfl) (liesRpF_cons (liesRp_int (by kernel_rfl)) (liesRpF_cons (liesRp_int (by kernel_rfl)) (liesRpF_cons (liesRp_int (by kernel_rfl)) (liesRpF_cons (liesRp_int (by kernel_rfl)) (liesRpF_last lies92_10)))))
theorem lies88_12 : LiesRp Try.prog 12 88 R88 := liesRp_slice (e := 94) (by kernel_rfl) lies94_11 (by rw [show Try.prog.bytesOf 94 = 56 from by kernel_rfl]; decide)
end Go.Abs.B1
