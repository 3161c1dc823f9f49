/- The disk: the first row goes out of the buffer. -/
import Derived.Test.YtnlhfcipapbfmaaDk8
import Derived.Test.YtnlhfcipapbfmaaAbsE
namespace Go.Abs.B1
open Go.Proofs
set_option maxRecDepth 10000
set_option maxHeartbeats 4000000
set_option linter.all false
def zRow : Array Value := #[.int .i64 0] ++ zeroB.toArray
theorem tRowDR : tRow Try.prog 147 = some (65, 72, zRow) := tRowx147
theorem text147 : rowOrText (Try.prog.underlying 147) = true := by kernel_rfl
theorem zeroCells_one {z : Array Value} : (Builtin.zeroCells z 1).toList = z.toList := by
  unfold Builtin.zeroCells
  apply List.ext_getElem?
  intro j
  simp only [Array.toList_map, List.getElem?_map, Nat.one_mul, Array.toList_range]
  by_cases hj : j < z.size
  · rw [List.getElem?_range hj]
    simp [Nat.mod_eq_of_lt hj, hj]
  · rw [List.getElem?_eq_none (by simp; omega), List.getElem?_eq_none (by simp; omega)]; rfl
theorem zRow_one : zRow.toList.all oneC = true := by
  rw [List.all_eq_true]; intro c hc
  simp only [zRow, zeroB, Array.toList_append, List.mem_append] at hc
  rcases hc with hc | hc
  · simp at hc; subst hc; rfl
  · have := List.eq_of_mem_replicate (by simpa using hc : c ∈ List.replicate 64 (Value.int .u8 0)); subst this; rfl
theorem zRow_flat : ∀ c ∈ zRow.toList, flatB c = true := by
  intro c hc
  simp only [zRow, zeroB, Array.toList_append, List.mem_append] at hc
  rcases hc with hc | hc
  · simp at hc; subst hc; exact flatB_int
  · have := List.eq_of_mem_replicate (by simpa using hc : c ∈ List.replicate 64 (Value.int .u8 0)); subst this; exact flatB_int
theorem splice_flat {cells : Array Value} {j : Nat} {d : List Value} (h : ∀ c ∈ cells, flatB c = true) (hd : ∀ c ∈ d, flatB c = true) (hj : j + d.length ≤ cells.size) : ∀ c ∈ splice cells j d, flatB c = true := by
  intro c hc
  obtain ⟨i, hi⟩ := mem_get (Array.mem_toList_iff.2 hc)
  rw [Array.getElem?_toList, splice_get _ _ _ _ hj] at hi
  split at hi
  · exact hd c (List.mem_of_getElem? hi)
  · exact h c (Array.mem_of_getElem? hi)
section
variable {I : Intr} {N : Nat} {k : Hp}
theorem run_Delete (h0 : I 99 = none) (hN : 2 < N) {bv : Value} {q : Nat} {xs : List T167} (a : OwnC R167 k bv (some q) xs) (hl : xs.length = 8) (hro : k.ro ≤ q) :
    Ex (fun v k' => OwnC R167 k' v (some q) (xs.drop 1) ∧ k'.size = k.size ∧ k'.ro = k.ro ∧ ∀ c, c ≠ q → k'.get c = k.get c) (evalV Try.prog I N (.fn 99) #[bv, .int .i64 0, .int .i64 1] k) := by
  obtain ⟨N, rfl⟩ : ∃ n, N = n + 1 := ⟨N - 1, by omega⟩
  rcases a with ⟨_, h, _⟩ | ⟨b, c, cells, rfl, hq, h3, h4, h5, h6, h7, h8, h9, h10⟩
  · cases h
  cases hq
  rw [hl] at h4 h5 h9 h10 ⊢
  rw [show R167.len = 65 from rfl] at h3 h9 h10
  have hcap : c < capOpen ∨ c = capOpen + 65 := by
    rcases h3 with h | h
    · exact .inr h
    · exact .inl h.1
  have known : ∀ (k' : Hp) (cs : Array Value) (off : Nat), k'.get q = some (.cells cs true) → off ≤ cs.size → k'.known ⟨q, off, none⟩ 65 = (cs.size - off) / 65 := fun k' cs off hg ho => by
    simp only [Hp.known, hg, ho, if_true]
  have hko : 8 ≤ cells.size / 65 := by omega
  have c13 : ∀ k' : Hp, k'.get q = some (.cells cells true) → aSlice Try.prog 147 (.slice (some ⟨q, 0, none⟩) 8 c) (some (.int .i64 0)) (some (.int .i64 1)) (some (.int .i64 ((8 : Nat) : Int))) k' = some (.slice (some ⟨q, 0, none⟩) 1 8, k') := fun k' hg => by
    have := aSlice3_own (P := Try.prog) (t := 147) (s := 65) (k := k') (b := q) (off := 0) (n := 8) (c := c) (l := 0) (hh := 1) (m := 8) (k1 := .i64) (k2 := .i64) (k3 := .i64) tElemx147 (by omega) (by
      rcases hcap with h | h
      · exact .inl ⟨h, h4⟩
      · exact .inr ⟨h, by rw [known k' cells 0 hg (by omega)]; omega, by simp [capOpen]⟩) (by omega) (by omega) (by omega)
    simpa using this
  have c22 : ∀ k' : Hp, k'.get q = some (.cells cells true) → aSlice Try.prog 147 (.slice (some ⟨q, 0, none⟩) 8 c) none (some (.int .i64 0)) none k' = some (.slice (some ⟨q, 0, none⟩) 0 c, k') := fun k' hg => by
    have := aSlice_own (P := Try.prog) (t := 147) (s := 65) (k := k') (b := q) (off := 0) (n := 8) (c := c) (l := 0) (hh := 0) (lov := none) (hiv := some (.int .i64 0)) tElemx147 (by omega) rfl ⟨.i64, rfl⟩ (by
      rcases hcap with h | h
      · exact .inl ⟨h, by omega⟩
      · exact .inr ⟨h, by omega, .inl rfl⟩) (by omega) (by omega)
    simpa using this
  have c25 : ∀ k' : Hp, k'.get q = some (.cells cells true) → aSlice Try.prog 147 (.slice (some ⟨q, 0, none⟩) 8 c) (some (.int .i64 1)) none none k' = some (.slice (some ⟨q, 65, none⟩) 7 (if c < capOpen then c - 1 else c), k') := fun k' hg => by
    have := aSlice_own (P := Try.prog) (t := 147) (s := 65) (k := k') (b := q) (off := 0) (n := 8) (c := c) (l := 1) (hh := 8) (lov := some (.int .i64 1)) (hiv := none) tElemx147 (by omega) ⟨.i64, rfl⟩ rfl (by
      rcases hcap with h | h
      · exact .inl ⟨h, h4⟩
      · exact .inr ⟨h, by rw [known k' cells 0 hg (by omega)]; omega, .inr (by rw [known k' cells 0 hg (by omega)]; omega)⟩) (by omega) (by omega)
    simpa using this
  have hnw : ∀ d, aNews Try.prog 147 65 (.slice (some ⟨q, 65, none⟩) 7 d) k = some (7, cells.extract 65 520) := fun d => by
    unfold aNews
    rw [if_pos text147]
    simp only [aLen, aFirst]
    rw [if_neg (by omega)]
    simp only [Hp.row, h7]
    rw [if_pos (by omega)]; rfl
  have hne : (cells.extract 65 520).size = 455 := by simp; omega
  have hnf : ∀ w ∈ (cells.extract 65 520).toList, flatB w = true := fun w hw => h8 w (mem_extract (Array.mem_toList_iff.1 hw))
  have hno : (cells.extract 65 520).toList.all oneC = true := by
    rw [List.all_eq_true]; intro w hw
    have e1 : (cells.extract 65 520).toList = (cells.toList.take (8 * 65)).drop 65 := by simp [List.drop_take]
    rw [e1] at hw
    exact h10.one w (List.mem_of_mem_drop hw)
  have capp : aAppend Try.prog #[147, 147] #[.slice (some ⟨q, 0, none⟩) 0 c, .slice (some ⟨q, 65, none⟩) 7 (if c < capOpen then c - 1 else c)] k = some (.slice (some ⟨q, 0, none⟩) 7 c, k.setB q (some (.cells (splice cells 0 (cells.extract 65 520).toList) true))) := by
    have := append_into (P := Try.prog) (t := 147) (tx := 147) (s := 65) (k := k) (b := q) (off := 0) (n := 0) (c := c) (m := 7) tRowDR (by omega) (hnw (if c < capOpen then c - 1 else c)) (by omega) (by rw [hne]) h7 hro (by
      rcases hcap with h | h
      · exact .inl ⟨h, by omega⟩
      · exact .inr ⟨h, by rw [known k cells 0 h7 (by omega)]; omega⟩) (by rw [hne]; omega) hno (by omega) (by simp [capOpen])
    simpa using this
  obtain ⟨cs2, hcs2⟩ : ∃ cs2, cs2 = splice cells 0 (cells.extract 65 520).toList := ⟨_, rfl⟩
  rw [← hcs2] at capp
  have hs2 : cs2.size = cells.size := by rw [hcs2, splice_size]
  have hlx : (cells.extract 65 520).toList.length = 455 := by rw [Array.length_toList]; exact hne
  have c31 : ∀ k' : Hp, k'.get q = some (.cells cs2 true) → aSlice Try.prog 147 (.slice (some ⟨q, 0, none⟩) 7 c) (some (.int .i64 ((7 : Nat) : Int))) (some (.int .i64 ((8 : Nat) : Int))) none k' = some (.slice (some ⟨q, 455, none⟩) 1 (if c < capOpen then c - 7 else c), k') := fun k' hg => by
    have := aSlice_own (P := Try.prog) (t := 147) (s := 65) (k := k') (b := q) (off := 0) (n := 7) (c := c) (l := 7) (hh := 8) (lov := some (.int .i64 ((7 : Nat) : Int))) (hiv := some (.int .i64 ((8 : Nat) : Int))) tElemx147 (by omega) ⟨.i64, rfl⟩ ⟨.i64, rfl⟩ (by
      rcases hcap with h | h
      · exact .inl ⟨h, h4⟩
      · exact .inr ⟨h, by rw [known k' cs2 0 hg (by omega)]; omega, .inr (by rw [known k' cs2 0 hg (by omega)]; omega)⟩) (by omega) (by omega)
    simpa using this
  have zl : (Builtin.zeroCells zRow 1).toList.length = 65 := by rw [zeroCells_one]; rfl
  have ccl : ∀ k' : Hp, k'.get q = some (.cells cs2 true) → k'.ro ≤ q → ∀ d, aClear Try.prog #[147] #[.slice (some ⟨q, 455, none⟩) 1 d] k' = some (.tuple #[], k'.setB q (some (.cells (splice cs2 455 zRow.toList) true))) := fun k' hg hr d => by
    have := aClear_own (P := Try.prog) (t := 147) (s := 65) (k := k') (b := q) (off := 455) (n := 1) (c := d) tRowDR (by omega) hg hr (by omega) (by rw [zeroCells_one]; exact zRow_one)
    rwa [zeroCells_one] at this
  have hr1 : (k.ro ≤ q) = True := by simp [hro]
  rw [evalV_call (P := Try.prog) (intr := I) (f := 99) (m := 33) (rs := #[.tmp 6]) h0 Try.func99 rfl rfl rfl]
  simp (maxDischargeDepth := 16) only [z04, z08, z09, z0a, z0c, z0d, z0e, z0p, z0q, z0s, z0t, z0v, z0w, z0z, z10, z11, z13, z1k, z1p, z1r, z2b, z3b, z4e, z4f, z4g, z4h, z4i, z4p, z4q, z4r, z4s, z4t, z4u, z4w, z4x, z4y, z4z, z53, z5b, z7t, Nat.reduceAdd, Nat.reduceSub, Int.reduceEq, tLenx147, h7, c13]
  rw [evalDraw_modes _ _ [(0, 0, 1), (0, 0, 2), (2, 3, 7), (0, 0, 8), (0, 0, 16), (2, 24, 56), (4, 63, 127), (0, 127, 255)] (by kernel_rfl)]
  simp (maxDischargeDepth := 16) only [z08, z09, z0d, z0e, z0q, z0s, z0t, z0v, z0z, z10, z11, z1k, z1m, z1p, z1r, z3b, z46, z4b, z4e, z4f, z4g, z4h, z4i, z4j, z4k, z4l, z4z, z53, z5a, z5j, z5k, z5l, z5t, z5u, z5x, z62, z6b, z6h, z6p, z6t, z6v, z6x, z70, z71, z87, z8d, Nat.reduceAdd, ↓reduceIte, keepR, tLenx147, h7, ne_f h6, ne_f0 h6, lt_t h6, lt_t0 h6, c22, c25, capp]
  simp (maxDischargeDepth := 16) only [z05, z08, z09, z0d, z0e, z0o, z0p, z0q, z0s, z0t, z0u, z0v, z10, z11, z1o, z33, z3b, z3c, z3f, z4d, z4e, z4f, z4g, z4h, z4i, z4j, z4k, z4l, z4z, ne_f h6, ne_f0 h6, lt_t h6, lt_t0 h6, c31, ccl, hr1]
  refine ⟨_, _, rfl, .inr ⟨q, c, splice cs2 455 zRow.toList, by simp [hl], rfl, ?_, by simp [hl]; omega, by simp [hl, capOpen], by simpa using h6, get_set_self, ?_, ?_, ?_⟩, rfl, rfl, fun d hd => by rw [get_set_ne hd, get_set_ne hd]⟩
  · rw [splice_size, hs2, show R167.len = 65 from rfl]; exact h3
  · refine splice_flat (fun w hw => ?_) zRow_flat (by rw [hs2]; show 455 + 65 ≤ _; omega)
    rw [hcs2] at hw
    exact splice_flat h8 hnf (by rw [hlx]; omega) w hw
  · rw [splice_size, hs2, show R167.len = 65 from rfl, List.length_drop, hl]; omega
  · rw [show R167.len = 65 from rfl, List.length_drop, hl]
    have e1 : (splice cs2 455 zRow.toList).toList.take ((8 - 1) * 65) = (cells.toList.take (8 * 65)).drop (1 * 65) := by
      rw [splice_list (by rw [hs2]; show 455 + 65 ≤ _; omega)]
      have hc2 : cs2.toList.take 455 = (cells.extract 65 520).toList := by
        rw [hcs2, splice_list (by rw [hlx]; omega), List.take_zero, List.nil_append, List.take_append, hlx, Nat.sub_self, List.take_zero, List.append_nil, List.take_of_length_le (by rw [hlx]; omega)]
      rw [hc2]
      have : (8 - 1) * 65 = (cells.extract 65 520).toList.length := by rw [hlx]
      rw [this, List.take_left]
      simp [List.drop_take]
    rw [e1]
    have := h10.drop (n := 1) (by omega)
    exact this.mono (fun _ h => h) id frNop
end
end Go.Abs.B1
