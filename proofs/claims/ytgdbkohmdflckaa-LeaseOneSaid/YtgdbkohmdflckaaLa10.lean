/- The law LeaseOne: from event to event. -/
import Derived.Test.YtgdbkohmdflckaaLa9
namespace Go.Abs.A1
open Go.Proofs
set_option maxRecDepth 10000
set_option linter.all false
section
variable {S : LS} {i : Nat}
theorem IV.stay (v : IV S i 12) : IV S (i + 1) 13 := by
  obtain ⟨a1, a2, a3, a4, a5, a6, a7, a8, a9⟩ := v
  exact ⟨by omega, by omega, by omega, by omega, a5, a6, fun g hg => by have := a7 g hg; omega, a8, by omega⟩
theorem IV.tick1 (v : IV S i 12) : IV { S with n1 := S.n1 + 1 } (i + 1) 13 := by
  obtain ⟨a1, a2, a3, a4, a5, a6, a7, a8, a9⟩ := v
  exact ⟨by simp only; omega, by simp only; omega, by simp only; omega, by simp only; omega, fun x hx => by have := a5 x hx; simp only; omega, a6, fun g hg => by have := a7 g hg; simp only; omega, a8, by simp only; omega⟩
theorem IV.tick2 (v : IV S i 12) : IV { S with n2 := S.n2 + 1, Pm := S.Pm } (i + 1) 13 := by
  obtain ⟨a1, a2, a3, a4, a5, a6, a7, a8, a9⟩ := v
  exact ⟨by simp only; omega, by simp only; omega, by simp only; omega, by simp only; omega, a5, a6, fun g hg => by have := a7 g hg; simp only; omega, a8, by simp only; omega⟩
theorem IV.ask (v : IV S i 12) : IV { S with asked := S.asked ++ [S.n1] } (i + 1) 13 := by
  have w := v.stay
  obtain ⟨a1, a2, a3, a4, a5, a6, a7, a8, a9⟩ := w
  refine ⟨a1, a2, a3, a4, fun x hx => ?_, a6, a7, a8, ?_⟩
  · rcases List.mem_append.1 hx with hx | hx
    · exact a5 x hx
    · simp at hx; subst hx; exact ⟨a1.1, by simp⟩
  · have := v.len; simp; omega
theorem IV.grant (v : IV S i 12) {t : Int} (ht : t ∈ S.asked) : IV { n1 := S.n1, H := S.H, n2 := S.n2, Pm := max S.Pm (S.n2 + 12), asked := S.asked, told := S.told ++ [t], gr := S.gr ++ [(S.n1, S.n2)] } (i + 1) 13 := by
  have w := v.stay
  obtain ⟨a1, a2, a3, a4, a5, a6, a7, a8, a9⟩ := w
  have hh := a5 t ht
  refine ⟨a1, a2, a3, by simp only; omega, a5, fun x hx => ?_, fun g hg => ?_, ?_, ?_⟩
  · rcases List.mem_append.1 hx with hx | hx
    · obtain ⟨q1, g, q2, q3⟩ := a6 x hx
      exact ⟨q1, g, List.mem_append_left _ q2, q3⟩
    · simp at hx; subst hx; exact ⟨hh.1, (S.n1, S.n2), by simp, hh.2⟩
  · rcases List.mem_append.1 hg with hg | hg
    · have := a7 g hg; simp only; omega
    · simp at hg; subst hg; simp only; omega
  · rcases a8 with a8 | ⟨g, q1, q2⟩
    · exact .inl a8
    · exact .inr ⟨g, List.mem_append_left _ q1, q2⟩
  · have := v.len; simp; omega
theorem IV.told' (v : IV S i 12) {t : Int} (ht : t ∈ S.told) : IV { S with n1 := S.n1, H := max S.H (t + 8) } (i + 1) 13 := by
  have w := v.stay
  obtain ⟨a1, a2, a3, a4, a5, a6, a7, a8, a9⟩ := w
  obtain ⟨q1, g, q2, q3⟩ := a6 t ht
  have := a7 g q2
  refine ⟨a1, a2, by simp only; omega, a4, a5, a6, a7, ?_, a9⟩
  rcases Decidable.em (S.H ≤ t + 8) with e | e
  · exact .inr ⟨g, q2, by simp only; omega⟩
  · rcases a8 with a8 | ⟨g', q4, q5⟩
    · exact .inl (by simp only; omega)
    · exact .inr ⟨g', q4, by simp only; omega⟩
theorem IV.pass (v : IV S i 13) (hc : ∀ g ∈ S.gr, ¬ (S.n2 - g.2 ≤ 12 ∧ S.n2 - g.2 > S.n1 - g.1 + 4)) : IV S i 12 := by
  obtain ⟨a1, a2, a3, a4, a5, a6, a7, a8, a9⟩ := v
  exact ⟨a1, a2, a3, a4, a5, a6, fun g hg => by have := a7 g hg; have := hc g hg; omega, a8, a9⟩
theorem IV.never (v : IV S i 12) : ¬ (S.n1 < S.H ∧ S.Pm ≤ S.n2) := by
  rintro ⟨h1, h2⟩
  rcases v.held with e | ⟨g, q1, q2⟩
  · have := v.n1; omega
  · have := v.gr g q1; omega
end

theorem f26_wide (a b c s : Int) (h0 : 0 ≤ a) (h1 : a < 1099511627776) (h2 : 0 ≤ s) (h3 : s ≤ a) (hb : b ≤ 1099511627776) (hc : c ≤ 1099511627776) (hb0 : 0 ≤ b) (hc0 : 0 ≤ c) : f26 a b c s = (a, max b (s + 8), c, 0) := by
  unfold f26 f18
  rw [if_pos (by rw [if_neg (by omega)]), if_neg (by omega), if_neg (by omega), wrap_u64]
  simp only [Prod.mk.injEq, true_and, and_true]
  omega
theorem f24_wide (a b c : Int) (h0 : 0 ≤ a) (h1 : a < 1099511627776) (hb : b ≤ 1099511627776) (hc : c ≤ 1099511627776) (hb0 : 0 ≤ b) (hc0 : 0 ≤ c) : f24 a b c = (a, b, max c (a + 12), 0) := by
  unfold f24 f18
  rw [if_pos (by rw [if_neg (by omega)]), if_neg (by omega), wrap_u64, wrap_u64]
  simp only [Prod.mk.injEq, true_and, and_true]
  omega
theorem SlAt.got {lo : Nat} {k : Hp} {b n c s : Nat} {cells : List Value} (hs : SlAt lo k (.slice (some ⟨b, 0, none⟩) n c) s cells) : k.get b = some (.cells cells.toArray true) ∧ cells.length = n * s := by
  rcases hs with ⟨e, _⟩ | ⟨b', n', e, _, _, h3, h4⟩
  · cases e
  · cases e; exact ⟨h4, h3⟩
/-- An index that is taken modulo a length. -/
theorem mod_index {x : Int} {n : Nat} (hx : 0 ≤ x) (hn : 0 < n) : ∃ j : Nat, Int.tmod x n = j ∧ j < n := by
  refine ⟨(x % n).toNat, ?_, ?_⟩
  · rw [Int.tmod_eq_emod_of_nonneg hx]
    have := Int.emod_nonneg x (show (n : Int) ≠ 0 by omega)
    omega
  · have := Int.emod_lt_of_pos x (show (0 : Int) < n by omega)
    omega
theorem build33o (x : Int) : pureP Try.prog (Instr.build 33 #[(0, .int .u64 x)]) = some (vL x 0 0) := by kernel_rfl
theorem build46 (x y : Int) : pureP Try.prog (Instr.build 46 #[(0, .int .u64 x), (1, .int .u64 y)]) = some (.agg #[u64 x, u64 y]) := by kernel_rfl
theorem lit41 (x : Int) (h : Hp) : aBuildSlice Try.prog 41 1 #[(0, .int .u64 x)] h = some (.slice (some ⟨h.size, 0, none⟩) 1 1, h.push (some (.cells #[u64 x] true))) :=
  build_lit (P := Try.prog) (t := 41) (by kernel_rfl : tRow Try.prog 41 = some (1, 8, #[.int .u64 0])) [u64 x] rfl (by simp) (by decide) (by decide)
theorem lit42 (x y : Int) (h : Hp) : aBuildSlice Try.prog 42 1 #[(0, .agg #[u64 x, u64 y])] h = some (.slice (some ⟨h.size, 0, none⟩) 1 1, h.push (some (.cells #[u64 x, u64 y] true))) :=
  build_lit (P := Try.prog) (t := 42) (by kernel_rfl : tRow Try.prog 42 = some (2, 16, #[.int .u64 0, .int .u64 0])) [.agg #[u64 x, u64 y]] rfl (by simp) (by decide) (by decide)
end Go.Abs.A1
