/- Ships: entries that are written over. -/
import Derived.Test.YtnlhfcipapbfmaaSh18
namespace Go.Abs.B1
open Go.Proofs
set_option maxRecDepth 10000
set_option maxHeartbeats 4000000
set_option linter.all false
def isNum : Value → Bool
  | .int _ _ => true
  | .bool _ => true
  | _ => false
theorem flatOk_num : ∀ {k : List Sc} {cs : List Value}, flatOk k cs → ∀ c ∈ cs, isNum c = true
  | [], [], _ => by simp
  | [], _ :: _, h => h.elim
  | _ :: _, [], h => h.elim
  | s :: k, v :: cs, h => by
    intro c hc
    rcases List.mem_cons.1 hc with rfl | hc
    · have := h.1
      cases s <;> cases c <;> simp [scOk] at this <;> rfl
    · exact flatOk_num h.2 c hc
theorem rows_num {K : List Sc} {o : Bool} {p : Nat → Prop} {k : Hp} : ∀ {cs : List Value} {xs : List (List Value)}, rows (Rp.flat K) o p k cs xs → ∀ c ∈ cs, isNum c = true
  | cs, [], r => by simp [show cs = [] from r]
  | cs, x :: xs, r => by
    obtain ⟨c, d, rfl, ⟨rfl, h1⟩, h2⟩ := r
    intro v hv
    rcases List.mem_append.1 hv with hv | hv
    · exact flatOk_num h1 v hv
    · exact rows_num h2 v hv
/-- A range of cells that bear no address, in a block that may be written. -/
def NumR (q : Nat → Prop) (k : Hp) (v : Value) (s : Nat) : Prop := ∃ o m c, v = .slice o m c ∧ (m = 0 ∨ ∃ b off cells, o = some ⟨b, off, none⟩ ∧ q b ∧ k.get b = some (.cells cells true) ∧ off + m * s ≤ cells.size ∧ ∀ j, off ≤ j → j < off + m * s → ∃ x, cells[j]? = some x ∧ isNum x = true)
theorem NumR.of {K : List Sc} {q : Nat → Prop} {k : Hp} {v : Value} {xs : List (List Value)} (r : (Rp.slice (Rp.flat K)).r true q k [v] xs) : NumR q k v K.length := by
  obtain ⟨a, c, e, _, _, h⟩ := r
  simp only [List.cons.injEq, and_true] at e
  subst e
  refine ⟨a, _, c, rfl, ?_⟩
  rcases h with ⟨rfl, _⟩ | ⟨b, off, cells, ow, rfl, hb, hg, ho, _, hs, hr⟩
  · exact .inl rfl
  · obtain rfl := ho rfl
    refine .inr ⟨b, off, cells, rfl, hb, hg, hs, fun j h1 h2 => ?_⟩
    have hj : j < cells.size := Nat.lt_of_lt_of_le h2 hs
    refine ⟨cells[j], by simp [hj], rows_num hr _ ?_⟩
    have h2' : j - off < xs.length * (Rp.flat K).len := by show j - off < xs.length * K.length; omega
    apply List.mem_of_getElem? (i := j - off)
    rw [List.getElem?_take_of_lt h2', List.getElem?_drop, show off + (j - off) = j by omega, Array.getElem?_toList]
    simp [hj]
def wrB (k : Hp) (b : Nat) (cs : Array Value) (j : Nat) (v : Value) : Hp := k.setB b (some (.cells (cs.setIfInBounds j v) true))
theorem NumR.write {q : Nat → Prop} {k : Hp} {v : Value} {s : Nat} (n : NumR q k v s) {b j : Nat} {cs : Array Value} {x w : Value} (hg : k.get b = some (.cells cs true)) (hj : cs[j]? = some x) (hw : isNum w = true) : NumR q (wrB k b cs j w) v s := by
  obtain ⟨o, m, c, rfl, h⟩ := n
  refine ⟨o, m, c, rfl, ?_⟩
  rcases h with h | ⟨b', off, cells, rfl, h1, h2, h3, h4⟩
  · exact .inl h
  · by_cases hb : b' = b
    · subst hb
      rw [hg] at h2
      cases h2
      refine .inr ⟨b', off, _, rfl, h1, get_set_self, by simpa using h3, fun i i1 i2 => ?_⟩
      by_cases hij : j = i
      · subst hij
        have := (Array.getElem?_eq_some_iff.1 hj).1
        exact ⟨w, by rw [Array.getElem?_setIfInBounds, if_pos rfl, if_pos this], hw⟩
      · rw [Array.getElem?_setIfInBounds, if_neg hij]
        exact h4 i i1 i2
    · exact .inr ⟨b', off, cells, rfl, h1, by unfold wrB; rw [get_set_ne hb]; exact h2, h3, h4⟩
/-- Entries that may be written over: where they lie, and the slices of their batches. -/
def Sp (q : Nat → Prop) (k : Hp) (B off n : Nat) (sl : Nat → Value) : Prop := q B ∧ ∃ cells, k.get B = some (.cells cells true) ∧ off + n * 4 ≤ cells.size ∧ ∀ i, i < n → (∃ x, cells[off + i * 4]? = some x ∧ isNum x = true) ∧ cells[off + (i * 4 + 3)]? = some (sl i) ∧ NumR q k (sl i) 22 ∧ ∀ o m c, sl i = .slice o m c → m ≤ 50
theorem Sp.write {q : Nat → Prop} {k : Hp} {B off n : Nat} {sl : Nat → Value} (h : Sp q k B off n sl) {b j : Nat} {cs : Array Value} {x w : Value} (hg : k.get b = some (.cells cs true)) (hj : cs[j]? = some x) (hx : isNum x = true) (hw : isNum w = true) : Sp q (wrB k b cs j w) B off n sl := by
  obtain ⟨h1, cells, h2, h3, h4⟩ := h
  refine ⟨h1, ?_⟩
  by_cases hb : B = b
  · subst hb
    rw [hg] at h2
    cases h2
    refine ⟨_, get_set_self, by simpa using h3, fun i hi => ?_⟩
    obtain ⟨k1, k2, k3, k4⟩ := h4 i hi
    refine ⟨?_, ?_, k3.write hg hj hw, k4⟩
    · by_cases hij : j = off + i * 4
      · subst hij
        have := (Array.getElem?_eq_some_iff.1 hj).1
        exact ⟨w, by rw [Array.getElem?_setIfInBounds, if_pos rfl, if_pos this], hw⟩
      · rw [Array.getElem?_setIfInBounds, if_neg hij]; exact k1
    · rw [Array.getElem?_setIfInBounds, if_neg]
      · exact k2
      · intro e
        rw [e, k2] at hj
        cases hj
        obtain ⟨_, _, _, e', _⟩ := k3
        rw [e'] at hx
        cases hx
  · refine ⟨cells, by unfold wrB; rw [get_set_ne hb]; exact h2, h3, fun i hi => ?_⟩
    obtain ⟨k1, k2, k3, k4⟩ := h4 i hi
    exact ⟨k1, k2, k3.write hg hj hw, k4⟩
theorem Sp.of {q : Nat → Prop} {k : Hp} {v : Value} {xs : T34} (r : R34.r true q k [v] xs) (hx : 0 < xs.length) (hl2 : ∀ x ∈ xs, x.2.2.2.length ≤ 50) : ∃ B off c sl, v = .slice (some ⟨B, off, none⟩) xs.length c ∧ Sp q k B off xs.length sl := by
  obtain ⟨y, hy⟩ : ∃ y, xs[0]? = some y := ⟨_, List.getElem?_eq_getElem hx⟩
  obtain ⟨B, off, c, cells, ow, part, rfl, hb, hg, ho, -, hle, -, -⟩ := elem_at (s := 4) r hy rfl (by decide)
  obtain rfl := ho rfl
  have key : ∀ i, i < xs.length → ∃ u, (∃ x, cells[off + i * 4]? = some x ∧ isNum x = true) ∧ cells[off + (i * 4 + 3)]? = some u ∧ NumR q k u 22 ∧ (∀ o m c, u = .slice o m c → m ≤ 50) ∧ off + (i * 4 + 4) ≤ cells.size := fun i hi => by
    obtain ⟨y, hy⟩ : ∃ y, xs[i]? = some y := ⟨_, List.getElem?_eq_getElem hi⟩
    obtain ⟨B', off', c', cells', ow', part', e, hb', hg', ho', hp', hle', -, he'⟩ := elem_at (s := 4) r hy rfl (by decide)
    cases e
    rw [hg] at hg'
    cases hg'
    obtain ⟨u, rfl, -, -, -, hu⟩ := R85_inv hp'
    refine ⟨u, ⟨_, he' 0 (by decide), rfl⟩, he' 3 (by decide), NumR.of hu, fun o m c e => ?_, hle'⟩
    obtain ⟨_, _, e', _⟩ := slice_form hu
    rw [e] at e'
    cases e'
    exact hl2 y (List.mem_of_getElem? hy)
  refine ⟨B, off, c, fun i => if h : i < xs.length then Classical.choose (key i h) else .nilFunc, rfl, hb, cells, hg, ?_, fun i hi => ?_⟩
  · obtain ⟨_, _, _, _, _, h⟩ := key (xs.length - 1) (by omega)
    omega
  · have := Classical.choose_spec (key i hi)
    simp only [dif_pos hi]
    exact ⟨this.1, this.2.1, this.2.2.1, this.2.2.2.1⟩
theorem run21 {I : Intr} (hI : I 21 = none) {N : Nat} {k : Hp} {v : Value} {xs : T34} {p : Nat → Prop} (r : R34.r true p k [v] xs) (hp : ∀ b, p b → b < k.size ∧ k.ro ≤ b) (hN : xs.length + 100 < N) (hl : xs.length ≤ 1000) (hl2 : ∀ x ∈ xs, x.2.2.2.length ≤ 50) :
    Ex (fun _ k' => k'.size = k.size ∧ k'.ro = k.ro ∧ (∀ b, ¬ p b → k'.get b = k.get b) ∧ ∀ v s, NumR p k v s → NumR p k' v s) (evalV Try.prog I N (.fn 21) #[v] k) := by
  obtain ⟨N, rfl⟩ : ∃ n, N = n + 1 := ⟨N - 1, by omega⟩
  rw [evalV_call (P := Try.prog) (intr := I) (f := 21) (m := 34) (rs := #[]) hI Try.func21 rfl rfl rfl]
  by_cases hx : 0 < xs.length
  case neg =>
    have hx0 : xs = [] := List.eq_nil_of_length_eq_zero (by omega)
    subst hx0
    obtain ⟨a, c, rfl, -, _⟩ := slice_form r
    obtain ⟨N, rfl⟩ : ∃ n, N = n + 1 := ⟨N - 1, by omega⟩
    simp (maxDischargeDepth := 16) only [z08, z09, z0d, z0e, z0p, z0q, z0s, z0t, z0v, z0w, z0z, z10, z1p, z1r, z3b, z4e, z4f, z4g, z4h, z4i, z4p, z4q, z4r, z4s, z4t, z4u, z4w, z4x, z4y, z53, z7o, evalC_block, Nat.reduceSub, tLenx34]
    rw [evalC_loop, evalLoop_succ]
    simp (maxDischargeDepth := 16) only [z06, z08, z09, z0a, z0c, z0d, z0e, z0g, z0j, z0m, z0n, z0p, z0q, z0s, z0t, z0v, z0z, z13, z2d, z3b, z3e, z4e, z4f, z4g, z4h, z4i, z5b, ↓reduceIte, Nat.reduceLT, Int.reduceLT]
    exact ⟨_, _, rfl, rfl, rfl, fun _ _ => rfl, fun _ _ h => h⟩
  obtain ⟨B, off, c, sl, rfl, hsp⟩ := Sp.of r hx hl2
  obtain ⟨n, hn⟩ : ∃ n, n = xs.length := ⟨_, rfl⟩
  rw [← hn] at hsp hx hN hl ⊢
  have hBp := hsp.1
  simp (maxDischargeDepth := 16) only [z08, z09, z0d, z0e, z0p, z0q, z0s, z0t, z0v, z0w, z0z, z10, z1p, z1r, z3b, z4e, z4f, z4g, z4h, z4i, z4p, z4q, z4r, z4s, z4t, z4u, z4w, z4x, z4y, z53, evalC_block, Nat.reduceSub, tLenx34]
  refine loop_rule (Ex (fun _ k' => k'.size = k.size ∧ k'.ro = k.ro ∧ (∀ b, ¬ p b → k'.get b = k.get b) ∧ ∀ v s, NumR p k v s → NumR p k' v s)) (fun m x k' => ∃ (i : Nat), m = n - i ∧ i ≤ n ∧ (k'.size = k.size ∧ k'.ro = k.ro ∧ (∀ b, ¬ p b → k'.get b = k.get b) ∧ ∀ v s, NumR p k v s → NumR p k' v s) ∧ Sp p k' B off n sl ∧
    x.tmps.size = 34 ∧ x.defers = [] ∧ x.tmps.getD 0 undef = .slice (some ⟨B, off, none⟩) n c ∧ x.tmps.getD 4 undef = .slice (some ⟨B, off, none⟩) n c ∧ x.tmps.getD 5 undef = .int .i64 (n : Int) ∧ x.tmps.getD 6 undef = .int .i64 (i : Int)) ?_ _ n _ _ ?_ ?_
  · intro m n' x k' hI' ih
    obtain ⟨i, hm, hi, hk, hs, hxs, hxd, l0, l4, l5, l6⟩ := hI'
    obtain ⟨g, rfl⟩ : ∃ g : Nat → Value, x = { tmps := #[.slice (some ⟨B, off, none⟩) n c, g 1, g 2, g 3, .slice (some ⟨B, off, none⟩) n c, .int .i64 (n : Int), .int .i64 (i : Int), g 7, g 8, g 9, g 10, g 11, g 12, g 13, g 14, g 15, g 16, g 17, g 18, g 19, g 20, g 21, g 22, g 23, g 24, g 25, g 26, g 27, g 28, g 29, g 30, g 31, g 32, g 33], defers := [] } := ⟨fun k => x.tmps.getD k undef, (act_eta hxs hxd).trans (by simp only [unrollL, Nat.reduceAdd, Nat.zero_add, l0, l4, l5, l6])⟩; clear hxs hxd l0 l4 l5 l6
    by_cases hlt : i < n
    · have hlt' : (i : Int) < (n : Int) := by omega
      obtain ⟨q1, q2, q3⟩ : m - 1 < m ∧ m - 1 = n - (i + 1) ∧ i + 1 ≤ n := by clear ih; omega
      have hnn : (0 ≤ (i : Int)) = True := by simp
      have w3 : IntKind.i64.wrap ((i : Int) + 1) = ((i + 1 : Nat) : Int) := by rw [i64_in] <;> omega
      obtain ⟨-, cells, hg, hle, hcell⟩ := hs
      obtain ⟨⟨e0, he0, hn0⟩, he3, ⟨o, mm, c3, hsl, hnum⟩, hm50⟩ := hcell i hlt
      have hmm := hm50 _ _ _ hsl
      rw [hsl] at he3
      simp (maxDischargeDepth := 16) only [z04, z08, z09, z0a, z0b, z0d, z0e, z0p, z0q, z0s, z0t, z0v, z0w, z0z, z10, z11, z13, z16, z18, z1e, z1p, z1r, z1v, z1z, z2d, z2u, z2w, z2x, z3a, z3b, z4e, z4f, z4g, z4h, z4i, z50, z51, z54, z5a, evalC_block, Hp.cell, tElemx34, tFieldAx45x0, tFieldAx85x3, tLenx43, tPartx43, hlt', hnn, hg, Int.toNat_natCast, he3]
      have hs' : Sp p k' B off n sl := ⟨hBp, cells, hg, hle, hcell⟩
      refine loop_rule (Ex (fun _ k' => k'.size = k.size ∧ k'.ro = k.ro ∧ (∀ b, ¬ p b → k'.get b = k.get b) ∧ ∀ v s, NumR p k v s → NumR p k' v s)) (fun m x k' => ∃ (j : Nat), m = mm - j ∧ j ≤ mm ∧ (k'.size = k.size ∧ k'.ro = k.ro ∧ (∀ b, ¬ p b → k'.get b = k.get b) ∧ ∀ v s, NumR p k v s → NumR p k' v s) ∧ Sp p k' B off n sl ∧
        x.tmps.size = 34 ∧ x.defers = [] ∧ x.tmps.getD 0 undef = .slice (some ⟨B, off, none⟩) n c ∧ x.tmps.getD 2 undef = .int .i64 (i : Int) ∧ x.tmps.getD 4 undef = .slice (some ⟨B, off, none⟩) n c ∧ x.tmps.getD 5 undef = .int .i64 (n : Int) ∧ x.tmps.getD 6 undef = .int .i64 (i : Int) ∧ x.tmps.getD 15 undef = .int .i64 (mm : Int) ∧ x.tmps.getD 16 undef = .int .i64 (j : Int)) ?_ _ mm _ _ ?_ ?_
      · intro m2 n2 x k2 hI2 ih2
        obtain ⟨j, hm2, hj, hk2, hs2, hxs, hxd, l0, l2, l4, l5, l6, l15, l16⟩ := hI2
        obtain ⟨g, rfl⟩ : ∃ g : Nat → Value, x = { tmps := #[.slice (some ⟨B, off, none⟩) n c, g 1, .int .i64 (i : Int), g 3, .slice (some ⟨B, off, none⟩) n c, .int .i64 (n : Int), .int .i64 (i : Int), g 7, g 8, g 9, g 10, g 11, g 12, g 13, g 14, .int .i64 (mm : Int), .int .i64 (j : Int), g 17, g 18, g 19, g 20, g 21, g 22, g 23, g 24, g 25, g 26, g 27, g 28, g 29, g 30, g 31, g 32, g 33], defers := [] } := ⟨fun k => x.tmps.getD k undef, (act_eta hxs hxd).trans (by simp only [unrollL, Nat.reduceAdd, Nat.zero_add, l0, l2, l4, l5, l6, l15, l16])⟩; clear hxs hxd l0 l2 l4 l5 l6 l15 l16
        have hs2' := hs2
        obtain ⟨-, cells2, hg2, hle2, hcell2⟩ := hs2
        obtain ⟨⟨f0, hf0, hnf0⟩, hf3, hnr, -⟩ := hcell2 i hlt
        rw [hsl] at hf3 hnr
        obtain ⟨o', mm', c3', e, hnum2⟩ := hnr
        cases e
        have rB : (k2.ro ≤ B) = True := by rw [hk2.2.1]; simp [(hp B hBp).2]
        by_cases hlt2 : j < mm
        · have hlt2' : (j : Int) < (mm : Int) := by omega
          obtain ⟨p1, p2, p3⟩ : m2 - 1 < m2 ∧ m2 - 1 = mm - (j + 1) ∧ j + 1 ≤ mm := dec_meas hlt2 hm2
          have hnj : (0 ≤ (j : Int)) = True := by simp
          have w4 : IntKind.i64.wrap ((j : Int) + 1) = ((j + 1 : Nat) : Int) := i64_succ (Nat.lt_of_lt_of_le hlt2 (Nat.le_trans hmm (by decide)))
          obtain h0 | ⟨b, off', cb, rfl, hqb, hgb, hsb, hrange⟩ := hnum2
          · omega
          have hpos : off' + (j * 22 + 21) < off' + mm * 22 := by omega
          obtain ⟨z, hz, hzn⟩ := hrange (off' + (j * 22 + 21)) (by omega) hpos
          have rb : (k2.ro ≤ b) = True := by rw [hk2.2.1]; simp [(hp b hqb).2]
          have hle3 : (off' + (j * 22 + 22) ≤ cb.size) = True := by simp; omega
          simp (maxDischargeDepth := 16) only [z04, z08, z09, z0a, z0b, z0d, z0e, z0h, z0k, z0p, z0q, z0s, z0t, z0u, z0v, z0w, z0z, z10, z11, z13, z16, z18, z1e, z1f, z1v, z1w, z1x, z1z, z24, z2d, z2m, z2u, z2w, z2x, z2y, z3a, z3b, z3p, z3v, z3w, z44, z45, z49, z4e, z4f, z4g, z4h, z4i, z4p, z4q, z4r, z50, z51, z53, z54, z5a, z5f, z72, evalC_block, Nat.reduceAdd, ↓reduceIte, Hp.cell, Hp.wr, tElemx34, tElemx43, tFieldAx45x0, tFieldAx85x3, tFieldAx139x4, tPartx43, tSizex3, hlt', hlt2', hnn, hnj, hg2, hgb, Int.toNat_natCast, hf3, rb, hle3, w4]
          refine ih2 (m2 - 1) _ _ p1 ⟨j + 1, p2, p3, ⟨hk2.1, hk2.2.1, fun b' hb' => ?_, fun v s hv => (hk2.2.2.2 v s hv).write hgb hz (w := .int .i64 99) rfl⟩, hs2'.write hgb hz hzn (w := .int .i64 99) rfl, rfl, rfl, rfl, rfl, rfl, rfl, rfl, rfl, rfl⟩
          rw [get_set_ne (fun e => hb' (by rw [e]; exact hqb))]
          exact hk2.2.2.1 b' hb'
        · have hlt2' : ¬ (j : Int) < (mm : Int) := by omega
          have hle4 : (off + (i * 4 + 1) ≤ cells2.size) = True := by simp; omega
          simp (maxDischargeDepth := 16) only [z06, z08, z09, z0a, z0c, z0d, z0e, z0g, z0h, z0j, z0k, z0m, z0p, z0q, z0s, z0t, z0u, z0v, z0w, z0z, z10, z13, z16, z18, z1f, z1w, z1x, z1z, z24, z2d, z2m, z2u, z2w, z2y, z3a, z3b, z3p, z3v, z3w, z44, z45, z49, z4e, z4f, z4g, z4h, z4i, z4p, z4q, z4r, z50, z51, z53, z54, z5b, z5f, z72, ↓reduceIte, Hp.wr, tElemx34, tFieldAx85x0, tSizex22, hlt', hlt2', hnn, hg2, Int.toNat_natCast, rB, hle4, w3]
          refine ih (m - 1) _ _ q1 ⟨i + 1, q2, q3, ⟨hk2.1, hk2.2.1, fun b' hb' => ?_, fun v s hv => (hk2.2.2.2 v s hv).write hg2 hf0 (w := .int .u64 99) rfl⟩, hs2'.write hg2 hf0 hnf0 (w := .int .u64 99) rfl, rfl, rfl, rfl, rfl, rfl, rfl⟩
          rw [get_set_ne (fun e => hb' (by rw [e]; exact hBp))]
          exact hk2.2.2.1 b' hb'
      · omega
      · exact ⟨0, by omega, by omega, hk, hs', rfl, rfl, rfl, rfl, rfl, rfl, rfl, rfl, rfl⟩
    · have hlt' : ¬ (i : Int) < (n : Int) := by omega
      simp (maxDischargeDepth := 16) only [z06, z08, z09, z0a, z0c, z0d, z0e, z0g, z0j, z0m, z0n, z0p, z0q, z0s, z0t, z0v, z0z, z13, z2d, z3b, z3e, z4e, z4f, z4g, z4h, z4i, z5b, ↓reduceIte, hlt']
      exact ⟨_, _, rfl, hk⟩
  · omega
  · exact ⟨0, by omega, by omega, ⟨rfl, rfl, fun _ _ => rfl, fun _ _ h => h⟩, hsp, rfl, rfl, rfl, rfl, rfl, rfl⟩
end Go.Abs.B1
