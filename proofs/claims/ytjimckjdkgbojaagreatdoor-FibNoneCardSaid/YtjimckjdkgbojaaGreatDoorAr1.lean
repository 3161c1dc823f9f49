/- Slices of bytes, by the machine's own steps: cloned, grown. -/
import Derived.Test.YtjimckjdkgbojaaGreatDoorDn0t
import Derived.KernelRfl
import Derived.WalkKit
import Derived.Lib.Walk
import Derived.Lib.SliceRun
import Derived.Lib.AppendZerosOnto
import Derived.Below
import Derived.Deep.LoopGhost
import Derived.Test.YtjimckjdkgbojaaGreatDoorAbsF
namespace Go.Abs.D1
open Go.Proofs Go.RowKit Go.Lib
set_option linter.all false
theorem und23 : Tryz.prog.underlying 23 = some (.slice 5) := by kernel_rfl
theorem info5a : (Tryz.prog.info? 5).bind (fun i => i.zero) = some (.int .u8 0) := by kernel_rfl
theorem info5b : (Tryz.prog.info? 5).map (fun i => (i.size, i.bytes)) = some (1, 1) := by kernel_rfl
theorem info5 : ∃ i0, Tryz.prog.info? 5 = some i0 ∧ i0.zero = some (.int .u8 0) ∧ i0.size = 1 ∧ i0.bytes = 1 := by
  have h1 := info5a; have h2 := info5b
  cases h : Tryz.prog.info? 5 with
  | none => rw [h] at h1; cases h1
  | some x => rw [h] at h1 h2; simp at h1 h2; exact ⟨x, rfl, h1, h2.1, h2.2⟩
set_option maxHeartbeats 2000000 in
set_option maxRecDepth 100000 in
theorem clone_some (b off n c : Nat) (news : List Value) (w : World) (hl : news.length = n) (hn : n ≤ maxLen) (hbig : n ≤ 140737488355328)
    (hc : ∀ j u, news[j]? = some u → w.cell? ⟨b, off + j, none⟩ = some u) (h1 : ∀ u ∈ news, u.oneCell' = true) :
    Calls Tryz.prog 89 #[.slice (some ⟨b, off, none⟩) n c] w fun e w' => ∃ v', e = .returned v' ∧ w'.ownsRow w.heap.size 5 1 v' n news ∧ v' ≠ .slice none 0 0 ∧ Below w.heap.size w w' := by
  have A : Aside (∀ j u, news[j]? = some u → w.cell? ⟨b, off + j, none⟩ = some u) := hc
  clear hc
  have q22 : ∀ (w : World) (a : Option Addr) (n c n' c' : Nat), (binOp .eql 23 (.slice a n c) (.slice none n' c')).run Tryz.prog w = .ok (.bool a.isNone) w := fun w a n c n' c' => Lib.run_eql_slice_nil w _ _ a n c n' c' und23
  obtain ⟨i0, hi, hz0, hz1, hz2⟩ := info5
  go_enter Tryz.func89, Tryz.ntmps89
  go_wp2_with (at_builtin; refine wpList_append_own _ rfl _ _ 23 rfl w.heap.size 5 i0 (.int .u8 0) 1 1 und23 hi hz0 hz1 hz2 rfl (by decide) _ _ _ rfl (World.ownsRow_made w #[] 0 (Nat.le_refl _) (Nat.zero_le _) (by simp)) ⟨b, off, none⟩ n c news rfl ?qc1 ?qc2 ?qc3 ?qc4 ?qc5 ?qc6 ?_)
  case qc1 => simpa using hl
  case qc2 =>
    intro j u hj
    rw [Addr.add_lit]
    exact Lib.cell?_alloc_some _ (A.out j u hj)
  case qc3 => exact h1
  case qc4 => rw [Nat.zero_add]; exact hn
  case qc5 => rw [Nat.zero_add]; omega
  case qc6 => simp
  intro v' w1 hown hgrow hnil
  go_wp2
  go_ret
  refine ⟨v', rfl, by simpa using hown, ?_, ?_⟩
  · exact hnil
  · exact ((Below.refl _ w).alloc (Nat.le_refl _) _).grown hgrow (by simp) (by intro k hk; simp [Value.ownBlock] at hk; omega)
set_option maxHeartbeats 2000000 in
set_option maxRecDepth 100000 in
theorem clone_nil (n c : Nat) (w : World) : Calls Tryz.prog 89 #[.slice none n c] w fun e w' => e = .returned (.slice none 0 0) ∧ w' = w := by
  have q22 : ∀ (w : World) (a : Option Addr) (n c n' c' : Nat), (binOp .eql 23 (.slice a n c) (.slice none n' c')).run Tryz.prog w = .ok (.bool a.isNone) w := fun w a n c n' c' => Lib.run_eql_slice_nil w _ _ a n c n' c' und23
  go_enter Tryz.func89, Tryz.ntmps89
  go_wp2
  go_ret
  exact ⟨rfl, rfl⟩
set_option maxHeartbeats 2000000 in
set_option maxRecDepth 100000 in
theorem grow_room (base : Option Addr) (l c n : Nat) (w : World) (hlc : l ≤ c) (hc63 : c ≤ 9223372036854775807) (hn63 : n ≤ 9223372036854775807) (hroom : l + n ≤ c) :
    Calls Tryz.prog 147 #[.slice base l c, .int .i64 n] w fun e w' => e = .returned (.slice base l c) ∧ w' = w := by
  have h1 : ¬ ((n : Int) < 0) := by omega
  have h2 : wrap64 ((c : Int) - (l : Int)) = (c : Int) - (l : Int) := by unfold wrap64; omega
  have h3 : wrap64 ((n : Int) - ((c : Int) - (l : Int))) = (n : Int) - ((c : Int) - (l : Int)) := by unfold wrap64; omega
  have h4 : ¬ ((n : Int) - ((c : Int) - (l : Int)) > 0) := by omega
  go_enter Tryz.func147, Tryz.ntmps147
  go_wp2
  go_ret
  exact ⟨rfl, rfl⟩
set_option maxHeartbeats 4000000 in
set_option maxRecDepth 100000 in
theorem grow_grow (i0 : TypeInfo) (hi0 : Tryz.prog.info? 5 = some i0) (hz0 : i0.zero = some (.int .u8 0)) (hs1 : i0.size = 1) (hb1 : i0.bytes = 1)
    (base : Option Addr) (l c n : Nat) (cs : List Value) (w : World) (hlc : l ≤ c) (hroom : c < l + n) (hbig : l + n ≤ 140737488355328)
    (hcl : cs.length = c) (hnil : base = none → c = 0) (hcs : ∀ a, base = some a → ∀ j v, cs[j]? = some v → w.cell? (a.add j) = some v) :
    Calls Tryz.prog 147 #[.slice base l c, .int .i64 n] w fun e w' =>
      e = .returned (.slice (some ⟨w.heap.size, 0, none⟩) l (grownCap w (l + n) c 5)) ∧
      w' = w.drew.alloc (.cells (cs.toArray ++ Builtin.zeroCells #[.int .u8 0] (l + n - c) ++ Builtin.zeroCells #[.int .u8 0] (grownCap w (l + n) c 5 - (l + n))) 5) := by
  have t22 := und23
  have t3 : Tryz.prog.underlying 3 = some (.int .i64) := by kernel_rfl
  have h1 : ¬ ((n : Int) < 0) := by omega
  have h2 : wrap64 ((c : Int) - (l : Int)) = (c : Int) - (l : Int) := by unfold wrap64; omega
  have h3 : wrap64 ((n : Int) - ((c : Int) - (l : Int))) = (n : Int) - ((c : Int) - (l : Int)) := by unfold wrap64; omega
  have h4 : (n : Int) - ((c : Int) - (l : Int)) > 0 := by omega
  have hck : c + (l + n - c) = l + n := by omega
  have hcl' : cs.length = c * i0.size := by rw [hs1]; omega
  have hold : (Builtin.firstCells i0.size c (.slice base c c)).run Tryz.prog w.drew = .ok cs.toArray w.drew := by
    cases base with
    | none =>
      have h0 := hnil rfl
      subst h0
      have hc0 : cs = [] := List.length_eq_zero_iff.1 (by simpa using hcl)
      rw [hc0]
      exact run_firstCells_none w.drew i0.size 0 0 0
    | some a => exact run_firstCells_some w.drew i0.size c a c c cs hcl' (fun j v hj => hcs a rfl j v hj)
  have hrz : ∀ ty, (Builtin.append_ #[23, 3] ty #[.slice base c c, .int .i64 ((n : Int) - ((c : Int) - (l : Int)))]).run Tryz.prog w =
      .ok (.slice (some ⟨w.heap.size, 0, none⟩) (l + n) (grownCap w (l + n) c 5)) (w.drew.alloc (.cells (cs.toArray ++ Builtin.zeroCells #[.int .u8 0] (l + n - c) ++ Builtin.zeroCells #[.int .u8 0] (grownCap w (l + n) c 5 - (l + n))) 5)) := fun ty => by
    have h := Lib.run_append_grow_zeros w 23 3 ty 5 i0 (.int .u8 0) .i64 .i64 t22 t3 hi0 hz0 base c c cs hold (l + n - c) (by omega) (by omega) (by omega) (by omega)
      (by rw [hb1]; omega)
      (by rw [hck]; exact growslice_fits hroom (by rw [hb1]; omega))
    rw [hck] at h
    rw [show (n : Int) - ((c : Int) - (l : Int)) = ((l + n - c : Nat) : Int) by omega]
    exact h
  have hGn : l + n ≤ grownCap w (l + n) c 5 := grownCap_ge w _ _ _
  obtain ⟨G, hG⟩ : ∃ G, G = grownCap w (l + n) c 5 := ⟨_, rfl⟩
  rw [← hG] at hrz hGn ⊢
  have hG63 : G ≤ 9223372036854775807 := by
    have := grownCap_le_maxLen w (l + n) c 5 (by unfold maxLen; omega)
    rw [← hG] at this
    unfold maxLen at this
    omega
  clear hold hck hG hcs hcl hcl'
  go_enter Tryz.func147, Tryz.ntmps147
  cases base with
  | none =>
    have h0 := hnil rfl
    subst h0
    obtain rfl : l = 0 := by omega
    go_wp2_with (at_builtin; refine Lib.wpList_append_run _ rfl _ _ _ _ rfl _ _ rfl rfl _ _ (hrz _) ?_)
    all_goals (go_ret; exact ⟨rfl, rfl⟩)
  | some a =>
    obtain ⟨ab, ao, asp⟩ := a
    go_wp2_with (at_builtin; refine Lib.wpList_append_run _ rfl _ _ _ _ rfl _ _ rfl rfl _ _ (hrz _) ?_)
    all_goals (go_ret; exact ⟨rfl, rfl⟩)
theorem grow_owns {base l n : Nat} {v : Value} {xs : List Value} {w : World} (hown : w.ownsRow base 5 1 v l xs) (hbase : base ≤ w.heap.size) (hn : l + n ≤ 140737488355328) :
    Calls Tryz.prog 147 #[v, .int .i64 n] w fun e w' => ∃ v', e = .returned v' ∧ w'.ownsRow base 5 1 v' l xs ∧ Below base w w' ∧ (1 ≤ n → v' ≠ .slice none 0 0) := by
  obtain ⟨i0, hi, hz0, hz1, hz2⟩ := info5
  obtain ⟨hl, ho⟩ := hown
  rcases ho with ⟨rfl, rfl⟩ | ⟨g, cap, cur, rfl, hb, hg, hnc, hcm, hcs, htake⟩
  · by_cases h0 : n = 0
    · subst h0
      refine (grow_room none 0 0 0 w (Nat.le_refl _) (by omega) (by omega) (by omega)).mono ?_
      rintro e w' ⟨rfl, rfl⟩
      exact ⟨_, rfl, ⟨hl, .inl ⟨rfl, rfl⟩⟩, Below.refl _ _, by omega⟩
    · refine (grow_grow i0 hi hz0 hz1 hz2 none 0 0 n [] w (Nat.le_refl _) (by omega) hn rfl (fun _ => rfl) (fun a h => by cases h)).mono ?_
      rintro e w' ⟨rfl, rfl⟩
      have hle := grownCap_ge w (0 + n) 0 5
      have hmx := grownCap_le_maxLen w (0 + n) 0 5 (by unfold maxLen; omega)
      refine ⟨_, rfl, ⟨hl, .inr ⟨w.heap.size, _, _, rfl, hbase, heap_alloc_new _ _, Nat.zero_le _, hmx, ?_, ?_⟩⟩, (Below.refl _ w).drew.alloc (by simpa using hbase) _, by simp⟩
      · rw [Nat.zero_add] at *; simp [Builtin.zeroCells]; omega
      · have : xs = [] := List.eq_nil_of_length_eq_zero (by simpa using hl)
        subst this; simp
  · by_cases h0 : l + n ≤ cap
    · refine (grow_room (some ⟨g, 0, none⟩) l cap n w hnc hcm (by omega) h0).mono ?_
      rintro e w' ⟨rfl, rfl⟩
      exact ⟨_, rfl, ⟨hl, .inr ⟨g, cap, cur, rfl, hb, hg, hnc, hcm, hcs, htake⟩⟩, Below.refl _ _, by simp⟩
    · have hcell : ∀ a : Addr, some (⟨g, 0, none⟩ : Addr) = some a → ∀ j v, cur.toList[j]? = some v → w.cell? (a.add j) = some v := by
        intro a ha j v hj
        cases ha
        have : (⟨g, 0, none⟩ : Addr).add j = ⟨g, j, none⟩ := by simp only [Addr.add]; split <;> simp_all
        rw [this]
        unfold World.cell?
        rw [hg]
        simpa using hj
      refine (grow_grow i0 hi hz0 hz1 hz2 (some ⟨g, 0, none⟩) l cap n cur.toList w hnc (by omega) hn (by simp [hcs]) (fun h => by cases h) hcell).mono ?_
      rintro e w' ⟨rfl, rfl⟩
      have hle := grownCap_ge w (l + n) cap 5
      have hmx := grownCap_le_maxLen w (l + n) cap 5 (by unfold maxLen; omega)
      refine ⟨_, rfl, ⟨hl, .inr ⟨w.heap.size, _, _, rfl, hbase, heap_alloc_new _ _, by omega, hmx, ?_, ?_⟩⟩, (Below.refl _ w).drew.alloc (by simpa using hbase) _, by simp⟩
      · simp [Builtin.zeroCells]; omega
      · rw [← htake]
        simp only [Array.toList_append, List.append_assoc]
        rw [List.take_append_of_le_length (by simp; omega)]
/-- The row that is handed in, as the machine has it. -/
def RowOf (w : World) (v : Value) (l : Nat) (xs : List Value) : Prop := xs.length = l ∧ (∀ u ∈ xs, u.oneCell' = true) ∧ ((∃ c, v = .slice none 0 c ∧ l = 0) ∨ ∃ b off c, v = .slice (some ⟨b, off, none⟩) l c ∧ ∀ j u, xs[j]? = some u → w.cell? ⟨b, off + j, none⟩ = some u)
theorem clone_owns {l : Nat} {v : Value} {xs : List Value} {w : World} (h : RowOf w v l xs) (hn : l ≤ 140737488355328) : Calls Tryz.prog 89 #[v] w fun e w' => ∃ v', e = .returned v' ∧ w'.ownsRow w.heap.size 5 1 v' l xs ∧ Below w.heap.size w w' := by
  obtain ⟨hl, h1, ⟨c, rfl, rfl⟩ | ⟨b, off, c, rfl, hc⟩⟩ := h
  · have : xs = [] := List.eq_nil_of_length_eq_zero hl
    subst this
    refine (clone_nil 0 c w).mono ?_
    rintro e w' ⟨rfl, rfl⟩
    exact ⟨_, rfl, World.ownsRow_nil _ _ _ _, Below.refl _ _⟩
  · refine (clone_some b off l c xs w hl (by unfold maxLen; omega) hn hc h1).mono ?_
    rintro e w' ⟨v', rfl, h2, -, h3⟩
    exact ⟨v', rfl, h2, h3⟩
end Go.Abs.D1
