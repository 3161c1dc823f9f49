/- What is told of other versions, and without an arena: for all arguments. -/
import Derived.Test.YtjimckjdkgbojaaGreatDoorDt4
import Derived.Test.YtjimckjdkgbojaaGreatDoorDp0
namespace Go.Abs.D1
open Go.Proofs
set_option maxRecDepth 100000
set_option linter.all false
theorem ok_int {k : IntKind} {ks : List Sc} {cs : List Value} (h : flatOk (.int k :: ks) cs) : ∃ n l, cs = .int k n :: l ∧ flatOk ks l := by
  cases cs with
  | nil => exact absurd h id
  | cons v l =>
    obtain ⟨h1, h2⟩ := h
    cases v <;> simp only [scOk] at h1
    exact ⟨_, l, by rw [h1.1], h2⟩
theorem ok_bool {ks : List Sc} {cs : List Value} (h : flatOk (.bool :: ks) cs) : ∃ n l, cs = .bool n :: l ∧ flatOk ks l := by
  cases cs with
  | nil => exact absurd h id
  | cons v l =>
    obtain ⟨h1, h2⟩ := h
    cases v <;> simp only [scOk] at h1
    exact ⟨_, l, rfl, h2⟩
theorem ok_nil {cs : List Value} (h : flatOk [] cs) : cs = [] := by
  cases cs with
  | nil => rfl
  | cons v l => exact absurd h id
theorem row_is {cs : List Value} (h : flatOk K37 cs) : ∃ a0 a1 a2 a3 a4 a5 a6 a7 a8 a9 a10 a11 a12 a13 a14 a15 a16 a17 a18 : Int, Value.agg cs.toArray = rowV a0 a1 a2 a3 a4 a5 a6 a7 a8 a9 a10 a11 a12 a13 a14 a15 a16 a17 a18 := by
  obtain ⟨a0, l0, e0, h0⟩ := ok_int h
  obtain ⟨a1, l1, e1, h1⟩ := ok_int h0
  obtain ⟨a2, l2, e2, h2⟩ := ok_int h1
  obtain ⟨a3, l3, e3, h3⟩ := ok_int h2
  obtain ⟨a4, l4, e4, h4⟩ := ok_int h3
  obtain ⟨a5, l5, e5, h5⟩ := ok_int h4
  obtain ⟨a6, l6, e6, h6⟩ := ok_int h5
  obtain ⟨a7, l7, e7, h7⟩ := ok_int h6
  obtain ⟨a8, l8, e8, h8⟩ := ok_int h7
  obtain ⟨a9, l9, e9, h9⟩ := ok_int h8
  obtain ⟨a10, l10, e10, h10⟩ := ok_int h9
  obtain ⟨a11, l11, e11, h11⟩ := ok_int h10
  obtain ⟨a12, l12, e12, h12⟩ := ok_int h11
  obtain ⟨a13, l13, e13, h13⟩ := ok_int h12
  obtain ⟨a14, l14, e14, h14⟩ := ok_int h13
  obtain ⟨a15, l15, e15, h15⟩ := ok_int h14
  obtain ⟨a16, l16, e16, h16⟩ := ok_int h15
  obtain ⟨a17, l17, e17, h17⟩ := ok_int h16
  obtain ⟨a18, l18, e18, h18⟩ := ok_int h17
  obtain rfl := ok_nil h18
  exact ⟨a0, a1, a2, a3, a4, a5, a6, a7, a8, a9, a10, a11, a12, a13, a14, a15, a16, a17, a18, by rw [e0, e1, e2, e3, e4, e5, e6, e7, e8, e9, e10, e11, e12, e13, e14, e15, e16, e17, e18]; rfl⟩
theorem seek_is {cs : List Value} (h : flatOk K39 cs) : ∃ (s0 s1 s2 s3 s4 s5 s6 s7 s8 s9 s10 s11 s12 s13 s14 s15 s16 s17 s18 s19 s20 : Int) (b1 b2 : Bool), Value.agg cs.toArray = seekV s0 s1 s2 s3 s4 s5 s6 s7 s8 s9 s10 s11 s12 s13 s14 s15 s16 s17 s18 s19 s20 b1 b2 := by
  obtain ⟨s0, l0, e0, h0⟩ := ok_int h
  obtain ⟨s1, l1, e1, h1⟩ := ok_int h0
  obtain ⟨s2, l2, e2, h2⟩ := ok_int h1
  obtain ⟨s3, l3, e3, h3⟩ := ok_int h2
  obtain ⟨s4, l4, e4, h4⟩ := ok_int h3
  obtain ⟨s5, l5, e5, h5⟩ := ok_int h4
  obtain ⟨s6, l6, e6, h6⟩ := ok_int h5
  obtain ⟨s7, l7, e7, h7⟩ := ok_int h6
  obtain ⟨s8, l8, e8, h8⟩ := ok_int h7
  obtain ⟨s9, l9, e9, h9⟩ := ok_int h8
  obtain ⟨s10, l10, e10, h10⟩ := ok_int h9
  obtain ⟨s11, l11, e11, h11⟩ := ok_int h10
  obtain ⟨s12, l12, e12, h12⟩ := ok_int h11
  obtain ⟨s13, l13, e13, h13⟩ := ok_int h12
  obtain ⟨s14, l14, e14, h14⟩ := ok_int h13
  obtain ⟨s15, l15, e15, h15⟩ := ok_int h14
  obtain ⟨s16, l16, e16, h16⟩ := ok_int h15
  obtain ⟨s17, l17, e17, h17⟩ := ok_int h16
  obtain ⟨s18, l18, e18, h18⟩ := ok_int h17
  obtain ⟨s19, l19, e19, h19⟩ := ok_int h18
  obtain ⟨s20, l20, e20, h20⟩ := ok_int h19
  obtain ⟨b1, l21, e21, h21⟩ := ok_bool h20
  obtain ⟨b2, l22, e22, h22⟩ := ok_bool h21
  obtain rfl := ok_nil h22
  exact ⟨s0, s1, s2, s3, s4, s5, s6, s7, s8, s9, s10, s11, s12, s13, s14, s15, s16, s17, s18, s19, s20, b1, b2, by rw [e0, e1, e2, e3, e4, e5, e6, e7, e8, e9, e10, e11, e12, e13, e14, e15, e16, e17, e18, e19, e20, e21, e22]; rfl⟩
def T4A (A : Array Value) : Prop := ∃ (cs ds : List Value) (v : Int), A = #[.agg cs.toArray, .agg ds.toArray, .int .i64 v] ∧ flatOk K37 cs ∧ flatOk K39 ds
theorem flat_of {k : List Sc} {cs : List Value} (h : flatOk k cs) : flatB (.agg cs.toArray) = true := by
  rw [flatB_agg, Array.all_eq_true_iff_forall_mem]
  exact fun c hc => (h.mem c (by simpa using hc)).1
theorem run4 (A : Array Value) (hA : T4A A) : (∀ a ∈ A, flatB a = true) ∧ ∃ n, (evalVK Tryz.prog I4 n (.fn 4) A.toList hL).map Prod.fst = some (.bool true) := by
  obtain ⟨cs, ds, v, rfl, h1, h2⟩ := hA
  refine ⟨fun a ha => ?_, 3000, ?_⟩
  · simp only [List.mem_toArray, List.mem_cons, List.not_mem_nil, or_false] at ha
    rcases ha with rfl | rfl | rfl
    · exact flat_of h1
    · exact flat_of h2
    · unfold flatB; rfl
  · obtain ⟨a0, a1, a2, a3, a4, a5, a6, a7, a8, a9, a10, a11, a12, a13, a14, a15, a16, a17, a18, hr⟩ := row_is h1
    obtain ⟨s0, s1, s2, s3, s4, s5, s6, s7, s8, s9, s10, s11, s12, s13, s14, s15, s16, s17, s18, s19, s20, b1, b2, hs⟩ := seek_is h2
    show (evalVK Tryz.prog I4 3000 (.fn 4) [.agg cs.toArray, .agg ds.toArray, .int .i64 v] hL).map Prod.fst = some (.bool true)
    rw [hr, hs]
    cases v with
    | ofNat n =>
      by_cases h7 : 7 ≤ n
      · obtain ⟨m, rfl⟩ : ∃ m, n = m + 7 := ⟨n - 7, by omega⟩
        exact run4p _ _ _ _ _ _ _ _ _ _ _ _ _ _ _ _ _ _ _ _ _ _ _ _ _ _ _ _ _ _ _ _ _ _ _ _ _ _ _ _ _ _ m
      · have : n = 0 ∨ n = 1 ∨ n = 2 ∨ n = 3 ∨ n = 4 ∨ n = 5 ∨ n = 6 := by omega
        rcases this with rfl | rfl | rfl | rfl | rfl | rfl | rfl
        · exact run40 _ _ _ _ _ _ _ _ _ _ _ _ _ _ _ _ _ _ _ _ _ _ _ _ _ _ _ _ _ _ _ _ _ _ _ _ _ _ _ _ _ _
        · exact run41 _ _ _ _ _ _ _ _ _ _ _ _ _ _ _ _ _ _ _ _ _ _ _ _ _ _ _ _ _ _ _ _ _ _ _ _ _ _ _ _ _ _
        · exact run42 _ _ _ _ _ _ _ _ _ _ _ _ _ _ _ _ _ _ _ _ _ _ _ _ _ _ _ _ _ _ _ _ _ _ _ _ _ _ _ _ _ _
        · exact run43 _ _ _ _ _ _ _ _ _ _ _ _ _ _ _ _ _ _ _ _ _ _ _ _ _ _ _ _ _ _ _ _ _ _ _ _ _ _ _ _ _ _
        · exact run44 _ _ _ _ _ _ _ _ _ _ _ _ _ _ _ _ _ _ _ _ _ _ _ _ _ _ _ _ _ _ _ _ _ _ _ _ _ _ _ _ _ _
        · exact run45 _ _ _ _ _ _ _ _ _ _ _ _ _ _ _ _ _ _ _ _ _ _ _ _ _ _ _ _ _ _ _ _ _ _ _ _ _ _ _ _ _ _
        · exact run46 _ _ _ _ _ _ _ _ _ _ _ _ _ _ _ _ _ _ _ _ _ _ _ _ _ _ _ _ _ _ _ _ _ _ _ _ _ _ _ _ _ _
    | negSucc n =>
      cases n with
      | zero => exact run4m _ _ _ _ _ _ _ _ _ _ _ _ _ _ _ _ _ _ _ _ _ _ _ _ _ _ _ _ _ _ _ _ _ _ _ _ _ _ _ _ _ _
      | succ n => exact run4n _ _ _ _ _ _ _ _ _ _ _ _ _ _ _ _ _ _ _ _ _ _ _ _ _ _ _ _ _ _ _ _ _ _ _ _ _ _ _ _ _ _ n
theorem con4 : Con Tryz.prog (CKb Tryz.prog) 4 (gT hL T4A (.bool true)) := Con.closedT base ok4 plainL (by kernel_rfl) run4
noncomputable def L4 : List (FuncId × (Array Value → Hp → Option (Value × Hp))) := [(4, gT hL T4A (.bool true))]
noncomputable abbrev J4 : Intr := fun f => L4.lookup f
theorem okJ4 : IntrOk Tryz.prog (CKb Tryz.prog) J4 := Con.table fun x hx => by
  simp only [L4, List.mem_cons, List.not_mem_nil, or_false] at hx
  rcases hx with rfl
  exact con4
theorem law4 {h : Hp} {A : Array Value} (hA : T4A A) (hs : SubH hL h) : evalV Tryz.prog J4 1 (.fn 4) A h = some (.bool true, h) := (evalV_intr (g := gT hL T4A (.bool true)) rfl).trans (gT_at hA hs)
end Go.Abs.D1
