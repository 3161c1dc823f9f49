/- The plain law of a play: what a crash lets down is what was shown. -/
import Derived.Test.YtnlhfcipapbfmaaDk27
import Derived.Test.YtnlhfcipapbfmaaAbsD
namespace Go.Abs.B1
open Go.Proofs
set_option maxRecDepth 10000
set_option maxHeartbeats 4000000
set_option linter.all false
theorem wrap_small (m : Nat) (h : m < 1000) : IntKind.i64.wrap (m : Int) = (m : Int) := by
  cases m with
  | zero => decide
  | succ m => exact i64_succ (i := m) (by omega)
theorem size_eq (n : Int) : ∃ j : Nat, 1 ≤ j ∧ j ≤ 24 ∧ IntKind.i64.wrap (IntKind.i64.wrap ((IntKind.u64.wrap n).tmod 24) + 1) = (j : Int) := by
  have h : 0 ≤ IntKind.u64.wrap n := by
    show 0 ≤ n % _
    exact Int.emod_nonneg _ (by decide)
  have h1 : 0 ≤ (IntKind.u64.wrap n).tmod 24 := Int.tmod_nonneg _ h
  have h2 : (IntKind.u64.wrap n).tmod 24 < 24 := Int.tmod_lt_of_pos _ (by decide)
  obtain ⟨s, hs⟩ : ∃ s : Nat, (IntKind.u64.wrap n).tmod 24 = (s : Int) := ⟨_, (Int.toNat_of_nonneg h1).symm⟩
  rw [hs, wrap_small s (by omega), i64_succ (i := s) (by omega)]
  exact ⟨s + 1, by omega, by omega, rfl⟩
theorem cellsEq_self {K : List Sc} : ∀ {x : List Value}, flatOk K x → (∀ s ∈ K, s = .int .u8) → cellsEq K x x = some true := by
  induction K with
  | nil => intro x h _; cases x with
    | nil => rfl
    | cons => exact h.elim
  | cons s ss ih => intro x h hK; cases x with
    | nil => exact h.elim
    | cons v vs =>
      obtain ⟨h1, h2⟩ := h
      rw [cellsEq, ih h2 fun s hs => hK s (List.mem_cons_of_mem _ hs)]
      have := hK s List.mem_cons_self
      subst this
      cases v <;> first | exact h1.elim | skip
      obtain ⟨rfl, -⟩ := h1
      simp [scEq, andO]
theorem neB {x : List Value} (h : flatOk K98 x) : aBin Try.prog .neq 98 (.agg x.toArray) (.agg x.toArray) = some (.bool false) :=
  (bin_eql_agg (P := Try.prog) (t := 98) (k := K98) (b := true) (by kernel_rfl) (by kernel_rfl) (by kernel_rfl) (cellsEq_self h (fun s hs => by simpa using hs))).2
theorem down_show {f : Nat → Bool} (i : Nat) : ∀ (rs : List T167) (P : List (List Value)) (n : Nat) (cur : List Value), P[i]? = some cur → (∀ r ∈ rs, 0 ≤ r.1) → (∀ j, n ≤ j → j < n + rs.length → f j = true) → (downL f P rs n)[i]? = some (showF i cur rs)
  | [], P, n, cur, h, _, _ => h
  | r :: rs, P, n, cur, h, h0, hf => by
    have hi := (List.getElem?_eq_some_iff.1 h).1
    have hr := h0 r List.mem_cons_self
    rw [downL, showF, if_pos (hf n (Nat.le_refl _) (by simp))]
    refine down_show i rs _ (n + 1) _ ?_ (fun x hx => h0 x (List.mem_cons_of_mem _ hx)) (fun j h1 h2 => hf j (by omega) (by simp only [List.length_cons]; omega))
    rw [List.getElem?_set]
    by_cases e : r.1 = (i : Int)
    · rw [if_pos (by omega), if_pos (by omega), if_pos e]
    · rw [if_neg (by omega), if_neg e]; exact h
theorem crash_show {D : DV} (wf : WF D) {i : Nat} (hi : i < D.1.length) : ((crashS D (List.replicate D.2.1.length true)).1[i]?).getD [] = showS D i := by
  obtain ⟨y, hy⟩ : ∃ y, D.1[i]? = some y := ⟨_, List.getElem?_eq_getElem hi⟩
  unfold crashS
  rw [down_show i D.2.1 D.1 0 y hy (fun r hr => (wf.sec r hr).1) (fun j _ h => by rw [List.getElem?_replicate, if_pos (by omega)]; rfl)]
  exact showF_eq wf hy
theorem read_plain {P : List (List Value)} {a o : Int} {i : Nat} (hi : i < P.length) : ∃ o', readS (P, [], a, -1, false, o) i = ((P, [], a, -1, false, o'), (P[i]?).getD [], 0) := by
  have ha : actS (P, [], a, -1, false, o) i false = ((P, [], a, -1, false, IntKind.i64.wrap (o + 1)), 0) := by
    unfold actS dn
    simp
    omega
  unfold readS
  rw [ha]
  refine ⟨IntKind.i64.wrap (o + 1), ?_⟩
  simp only [if_true]
  refine congrArg _ (congrArg (·, (0 : Int)) ?_)
  unfold showS
  simp [idxF]
end Go.Abs.B1
