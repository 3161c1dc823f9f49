/- Ships: small views, offers that may be: what several texts need. -/
import Derived.Test.YtnlhfcipapbfmaaSh16
namespace Go.Abs.B1
open Go.Proofs
set_option maxRecDepth 10000
set_option maxHeartbeats 4000000
set_option linter.all false
def zM : T47 := (0, 0, 0, 0, (0, 0), [], 0, false, 0, 0, ((0, 0), [], ((0, 0), (0, 0), (0, 0))), 0, [], 0)
def offM (x : T36) (n : Int) : Int := min n (f55 x)
def offD (x : T36) (n : Int) : T47 :=
  if offM x n < x.2.1.1.1 then (3, 0, 0, 0, (0, 0), [], 0, false, 0, 0, x.2.1, 0, [], 0)
  else (1, 0, 0, 0, ((f57 x (offM x n)).1, (f57 x (offM x n)).2.1), (x.2.2.drop (offM x n - x.2.1.1.1).toNat).take 8, 0, false, 0, 0, ((0, 0), [], ((0, 0), (0, 0), (0, 0))), 0, [], 0)
structure Small (x : T36) : Prop where
  routes : x.2.1.2.1.length ≤ 20
  ents : x.2.2.length ≤ 100
  ups : ∀ e ∈ x.2.2, e.2.2.2.length ≤ 9
theorem i0 : IntKind.i64.min ≤ (0 : Int) ∧ (0 : Int) ≤ IntKind.i64.max := by decide
theorem i1 : IntKind.i64.min ≤ (1 : Int) ∧ (1 : Int) ≤ IntKind.i64.max := by decide
theorem i3 : IntKind.i64.min ≤ (3 : Int) ∧ (3 : Int) ≤ IntKind.i64.max := by decide
theorem u0 : IntKind.u64.min ≤ (0 : Int) ∧ (0 : Int) ≤ IntKind.u64.max := by decide
theorem w0 : IntKind.u32.min ≤ (0 : Int) ∧ (0 : Int) ≤ IntKind.u32.max := by decide
theorem nilR {α : Type} {e : Rp α} {o : Bool} {p : Nat → Prop} {k : Hp} : (Rp.slice e).r o p k [.slice none 0 0] [] := OwnS.nil.rp (p := p) (o := o) (fun _ h => h) (fun b h => by cases h)
theorem epo_b {o : Bool} {p : Nat → Prop} {h : Hp} {v : Value} {x : T36} (r : R34.r o p h [v] x.2.2) (i : Nat) : IntKind.u64.min ≤ epoAt x i ∧ epoAt x i ≤ IntKind.u64.max := by
  unfold epoAt
  cases hx : x.2.2[i]? with
  | none => exact u0
  | some e =>
    obtain ⟨b, off, c, cells, ow, part, -, -, -, -, hp, -⟩ := elem_at (s := 4) r hx rfl (by decide)
    obtain ⟨w, -, d, -⟩ := R85_inv hp
    exact d
theorem f57_b {o : Bool} {p : Nat → Prop} {h : Hp} {cs : List Value} {x : T36} (r : R36.r o p h cs x) {i : Int} (hi : IntKind.u64.min ≤ i ∧ i ≤ IntKind.u64.max) :
    (IntKind.u64.min ≤ (f57 x i).1 ∧ (f57 x i).1 ≤ IntKind.u64.max) ∧ (IntKind.u64.min ≤ (f57 x i).2.1 ∧ (f57 x i).2.1 ≤ IntKind.u64.max) := by
  obtain ⟨v1, v2, rfl, b1, b2, b3, hv1, b4, b5, b6, b7, b8, b9, hv2⟩ := R36_inv r
  unfold f57
  split
  · exact ⟨u0, u0⟩
  · split
    · exact ⟨u0, u0⟩
    · split
      · exact ⟨b2, b3⟩
      · exact ⟨hi, epo_b hv2 _⟩
theorem right_62 {x : T36} (q0 : f15 x = 0) : x.2.1.1.1 ≤ 4611686018427387904 := by
  unfold f15 at q0
  by_cases h : 4611686018427387904 < x.2.1.1.1
  · rw [if_pos h] at q0; cases q0
  · omega
theorem last_eq {x : T36} (q0 : f15 x = 0) (hx : 0 ≤ x.2.1.1.1) (hl : x.2.2.length ≤ 1000) : f55 x = x.2.1.1.1 + x.2.2.length := by
  have := right_62 q0
  unfold f55
  rw [u64_in (x := (x.2.2.length : Int)) (by omega) (by omega), u64_in (by omega) (by omega)]
/-- A guard whose holder was passed over. -/
theorem guU : yielded.match_1 (fun _ => Option Bool) (some undef) (fun b => some b) (fun _ => none) = none := rfl
def f29 (y : T47) : Bool := decide (y.1 = 1) && decide ((y.2.2.2.2.2.1.length : Int) ≤ 8) && decide (y.2.2.2.2.1.1 ≤ 4611686018427387904)
end Go.Abs.B1
