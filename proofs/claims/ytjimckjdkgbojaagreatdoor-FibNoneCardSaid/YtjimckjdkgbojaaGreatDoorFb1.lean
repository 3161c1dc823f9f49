/- How a prefix and an address lie. -/
import Derived.Test.YtjimckjdkgbojaaGreatDoorDn0t
import Derived.Test.YtjimckjdkgbojaaGreatDoorAbsF
namespace Go.Abs.D1
open Go.Proofs
set_option linter.all false
theorem fb_int {k : IntKind} {ks : List Sc} {cs : List Value} (h : flatOk (.int k :: ks) cs) : ∃ n l, cs = .int k n :: l ∧ flatOk ks l := by
  cases cs with
  | nil => exact absurd h id
  | cons v l =>
    obtain ⟨h1, h2⟩ := h
    cases v <;> simp only [scOk] at h1
    exact ⟨_, l, by rw [h1.1], h2⟩
theorem fb_nil {cs : List Value} (h : flatOk [] cs) : cs = [] := by
  cases cs with
  | nil => rfl
  | cons v l => exact absurd h id
abbrev K35 : List Sc := [.int .i64, .int .u8, .int .u8, .int .u8, .int .u8, .int .u8, .int .u8, .int .u8, .int .u8, .int .u8, .int .u8, .int .u8, .int .u8, .int .u8, .int .u8, .int .u8, .int .u8, .int .i64]
abbrev K33 : List Sc := [.int .i64, .int .u8, .int .u8, .int .u8, .int .u8, .int .u8, .int .u8, .int .u8, .int .u8, .int .u8, .int .u8, .int .u8, .int .u8, .int .u8, .int .u8, .int .u8, .int .u8]
def R35 : Rp (List Value) := Rp.flat K35
def R33 : Rp (List Value) := Rp.flat K33
theorem lies35_12 : LiesRp Tryz.prog 12 35 R35 := liesRp_flat (k := K35) (by kernel_rfl) (by decide)
theorem lies33_12 : LiesRp Tryz.prog 12 33 R33 := liesRp_flat (k := K33) (by kernel_rfl) (by decide)
abbrev prefV (a0 a1 a2 a3 a4 a5 a6 a7 a8 a9 a10 a11 a12 a13 a14 a15 a16 a17 : Int) : Value := .agg #[.int .i64 a0, .int .u8 a1, .int .u8 a2, .int .u8 a3, .int .u8 a4, .int .u8 a5, .int .u8 a6, .int .u8 a7, .int .u8 a8, .int .u8 a9, .int .u8 a10, .int .u8 a11, .int .u8 a12, .int .u8 a13, .int .u8 a14, .int .u8 a15, .int .u8 a16, .int .i64 a17]
abbrev addrV (a0 a1 a2 a3 a4 a5 a6 a7 a8 a9 a10 a11 a12 a13 a14 a15 a16 : Int) : Value := .agg #[.int .i64 a0, .int .u8 a1, .int .u8 a2, .int .u8 a3, .int .u8 a4, .int .u8 a5, .int .u8 a6, .int .u8 a7, .int .u8 a8, .int .u8 a9, .int .u8 a10, .int .u8 a11, .int .u8 a12, .int .u8 a13, .int .u8 a14, .int .u8 a15, .int .u8 a16]
theorem pref_is {cs : List Value} (h : flatOk K35 cs) : ∃ a0 a1 a2 a3 a4 a5 a6 a7 a8 a9 a10 a11 a12 a13 a14 a15 a16 a17 : Int, Value.agg cs.toArray = prefV a0 a1 a2 a3 a4 a5 a6 a7 a8 a9 a10 a11 a12 a13 a14 a15 a16 a17 := by
  obtain ⟨a0, l0, e0, h0⟩ := fb_int h
  obtain ⟨a1, l1, e1, h1⟩ := fb_int h0
  obtain ⟨a2, l2, e2, h2⟩ := fb_int h1
  obtain ⟨a3, l3, e3, h3⟩ := fb_int h2
  obtain ⟨a4, l4, e4, h4⟩ := fb_int h3
  obtain ⟨a5, l5, e5, h5⟩ := fb_int h4
  obtain ⟨a6, l6, e6, h6⟩ := fb_int h5
  obtain ⟨a7, l7, e7, h7⟩ := fb_int h6
  obtain ⟨a8, l8, e8, h8⟩ := fb_int h7
  obtain ⟨a9, l9, e9, h9⟩ := fb_int h8
  obtain ⟨a10, l10, e10, h10⟩ := fb_int h9
  obtain ⟨a11, l11, e11, h11⟩ := fb_int h10
  obtain ⟨a12, l12, e12, h12⟩ := fb_int h11
  obtain ⟨a13, l13, e13, h13⟩ := fb_int h12
  obtain ⟨a14, l14, e14, h14⟩ := fb_int h13
  obtain ⟨a15, l15, e15, h15⟩ := fb_int h14
  obtain ⟨a16, l16, e16, h16⟩ := fb_int h15
  obtain ⟨a17, l17, e17, h17⟩ := fb_int h16
  obtain rfl := fb_nil h17
  exact ⟨a0, a1, a2, a3, a4, a5, a6, a7, a8, a9, a10, a11, a12, a13, a14, a15, a16, a17, by rw [e0, e1, e2, e3, e4, e5, e6, e7, e8, e9, e10, e11, e12, e13, e14, e15, e16, e17]⟩
theorem addr_is {cs : List Value} (h : flatOk K33 cs) : ∃ a0 a1 a2 a3 a4 a5 a6 a7 a8 a9 a10 a11 a12 a13 a14 a15 a16 : Int, Value.agg cs.toArray = addrV a0 a1 a2 a3 a4 a5 a6 a7 a8 a9 a10 a11 a12 a13 a14 a15 a16 := by
  obtain ⟨a0, l0, e0, h0⟩ := fb_int h
  obtain ⟨a1, l1, e1, h1⟩ := fb_int h0
  obtain ⟨a2, l2, e2, h2⟩ := fb_int h1
  obtain ⟨a3, l3, e3, h3⟩ := fb_int h2
  obtain ⟨a4, l4, e4, h4⟩ := fb_int h3
  obtain ⟨a5, l5, e5, h5⟩ := fb_int h4
  obtain ⟨a6, l6, e6, h6⟩ := fb_int h5
  obtain ⟨a7, l7, e7, h7⟩ := fb_int h6
  obtain ⟨a8, l8, e8, h8⟩ := fb_int h7
  obtain ⟨a9, l9, e9, h9⟩ := fb_int h8
  obtain ⟨a10, l10, e10, h10⟩ := fb_int h9
  obtain ⟨a11, l11, e11, h11⟩ := fb_int h10
  obtain ⟨a12, l12, e12, h12⟩ := fb_int h11
  obtain ⟨a13, l13, e13, h13⟩ := fb_int h12
  obtain ⟨a14, l14, e14, h14⟩ := fb_int h13
  obtain ⟨a15, l15, e15, h15⟩ := fb_int h14
  obtain ⟨a16, l16, e16, h16⟩ := fb_int h15
  obtain rfl := fb_nil h16
  exact ⟨a0, a1, a2, a3, a4, a5, a6, a7, a8, a9, a10, a11, a12, a13, a14, a15, a16, by rw [e0, e1, e2, e3, e4, e5, e6, e7, e8, e9, e10, e11, e12, e13, e14, e15, e16]⟩
end Go.Abs.D1
