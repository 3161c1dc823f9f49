/- Which bits of an address are noughts. -/
import Derived.Test.YtjimckjdkgbojaaGreatDoorDn0t
import Derived.Test.YtjimckjdkgbojaaGreatDoorAbsF
namespace Go.Abs.D1
open Go.Proofs
set_option maxRecDepth 10000
set_option maxHeartbeats 4000000
set_option linter.all false
def bitN (bs : List Int) (i : Nat) : Bool := Nat.testBit (bs.getD (i / 8) 0).toNat (7 - i % 8)
def clrN (bs : List Int) : Nat → Nat → Bool
  | 0, _ => true
  | f + 1, i => if bitN bs i then false else clrN bs f (i + 1)
def byteV (v : Value) : Option Int := match v with
  | .int .u8 x => if 0 ≤ x ∧ x < 256 then some x else none
  | _ => none
def bytesV : List Value → Option (List Int)
  | [] => some []
  | v :: l => match byteV v, bytesV l with
    | some x, some xs => some (x :: xs)
    | _, _ => none
theorem bytesV_is : ∀ (l : List Value) (bs : List Int), bytesV l = some bs → l = bs.map (.int .u8) ∧ ∀ x ∈ bs, 0 ≤ x ∧ x < 256
  | [], bs, h => by cases h; simp
  | v :: l, bs, h => by
    simp only [bytesV] at h
    split at h
    · rename_i x xs h1 h2
      cases h
      obtain ⟨h3, h4⟩ := bytesV_is l xs h2
      unfold byteV at h1
      split at h1
      · split at h1
        · rename_i hb
          cases h1
          exact ⟨by rw [h3]; rfl, fun y hy => by
            rcases List.mem_cons.1 hy with rfl | hy
            · exact hb
            · exact h4 y hy⟩
        · cases h1
      · cases h1
    · cases h
theorem bit_all : (List.range 256).all (fun x => (List.range 8).all fun s => decide (ibAnd .u8 (ishr .u8 (x : Int) (s : Int)) 1 = 1) == Nat.testBit x s) = true := by kernel_rfl
theorem bit_is {x s : Int} (h1 : 0 ≤ x) (h2 : x < 256) (h3 : 0 ≤ s) (h4 : s < 8) : decide (ibAnd .u8 (ishr .u8 x s) 1 = 1) = Nat.testBit x.toNat s.toNat := by
  have := List.all_eq_true.1 bit_all x.toNat (List.mem_range.2 (by omega))
  have := List.all_eq_true.1 this s.toNat (List.mem_range.2 (by omega))
  rw [beq_iff_eq, Int.toNat_of_nonneg h1, Int.toNat_of_nonneg h3] at this
  exact this
theorem run112 {I : Intr} (h1 : I 112 = none) {N : Nat} {h : Hp} {bs : List Int} (hl : bs.length = 16) (hb : ∀ x ∈ bs, 0 ≤ x ∧ x < 256) {n : Nat} (hn : n < 4611686018427387904) (hN : 200 < N) (hro : h.ro ≤ h.size) :
    Al h (fun _ v => v = .bool (clrN bs (128 - n) n)) (evalV Tryz.prog I N (.fn 112) #[.agg (bs.map (.int .u8)).toArray, .int .i64 (n : Int)] h) := by
  obtain ⟨N, rfl⟩ : ∃ n, N = n + 1 := ⟨N - 1, by omega⟩
  rw [evalV_call (P := Tryz.prog) (intr := I) (f := 112) (m := 21) (rs := #[.tmp 4]) h1 Tryz.func112 rfl rfl rfl]
  simp (maxDischargeDepth := 16) only [z08, z09, z0d, z0e, z0p, z0q, z0s, z0t, z0v, z0w, z10, z11, z1h, z2o, z3b, z4e, z4f, z4g, z4h, z4i, z4p, z4q, z4r, z4s, z4t, z4u, z4w, z4x, z4y, z53, z7n, evalC_block, Nat.reduceAdd, Nat.reduceSub]
  refine loop_rule (Al h _) (fun m x k' => ∃ i : Nat, m = 128 - i ∧ clrN bs (128 - n) n = clrN bs (128 - i) i ∧ (i ≤ 128 ∨ i = n) ∧ k' = (h.push (some (.cells (bs.map (.int .u8)).toArray true))) ∧ x.tmps.size = 21 ∧ x.defers = [] ∧ x.tmps.getD 2 undef = .pointer (some ⟨h.size, 0, none⟩) ∧ x.tmps.getD 5 undef = .int .i64 (i : Int)) ?_ _ (128 - n) _ _ ?_ ?_
  · intro m n' x k' hI' ih
    obtain ⟨i, hm, hx, hi, rfl, hxs, hxd, l2, l5⟩ := hI'
    obtain ⟨g, rfl⟩ : ∃ g : Nat → Value, x = { tmps := #[g 0, g 1, .pointer (some ⟨h.size, 0, none⟩), g 3, g 4, .int .i64 (i : Int), g 6, g 7, g 8, g 9, g 10, g 11, g 12, g 13, g 14, g 15, g 16, g 17, g 18, g 19, g 20], defers := [] } := ⟨fun k => x.tmps.getD k undef, (act_eta hxs hxd).trans (by simp only [unrollL, Nat.reduceAdd, Nat.zero_add, l2, l5])⟩; clear hxs hxd l2 l5
    by_cases hlt : i < 128
    · have hlt' : ((i : Int) < 128) = True := eq_true (by omega)
      have hi8 : i / 8 < bs.length := by omega
      obtain ⟨x, hx0⟩ : ∃ x, bs[i / 8]? = some x := ⟨_, List.getElem?_eq_getElem hi8⟩
      obtain ⟨hx1, hx2⟩ := hb x (List.mem_of_getElem? hx0)
      have e1 : IntKind.i64.wrap ((i : Int).tdiv 8) = ((i / 8 : Nat) : Int) := by
        rw [show (i : Int).tdiv 8 = ((i / 8 : Nat) : Int) from rfl, i64_in (by omega) (by omega)]
      have e2 : (i : Int).tmod 8 = ((i % 8 : Nat) : Int) := rfl
      have e3 : IntKind.i64.wrap (7 - ((i % 8 : Nat) : Int)) = ((7 - i % 8 : Nat) : Int) := by rw [i64_in (by omega) (by omega)]; omega
      have pa : (0 ≤ ((i / 8 : Nat) : Int)) = True := eq_true (by omega)
      have pb : (((i / 8 : Nat) : Int) < ((16 : Nat) : Int)) = True := eq_true (by omega)
      have ps : 0 ≤ ((7 - i % 8 : Nat) : Int) := by omega
      have hg : (bs.map (Value.int .u8)).toArray[i / 8]? = some (.int .u8 x) := by simp [hx0]
      have hbit := bit_is (x := x) (s := ((7 - i % 8 : Nat) : Int)) hx1 hx2 (by omega) (by omega)
      rw [Int.toNat_natCast] at hbit
      have hbn : bitN bs i = Nat.testBit x.toNat (7 - i % 8) := by unfold bitN; rw [List.getD_eq_getElem?_getD, hx0]; rfl
      have w3 := i64_succ (i := i) (by omega)
      have hstep : clrN bs (128 - i) i = if bitN bs i then false else clrN bs (128 - (i + 1)) (i + 1) := by
        rw [show 128 - i = (128 - (i + 1)) + 1 by omega]; rfl
      have gc : (h.push (some (.cells (bs.map (Value.int .u8)).toArray true))).get h.size = some (.cells (bs.map (Value.int .u8)).toArray true) := by rw [Hp.get_push, if_pos rfl]
      have nc : h.size < (h.push (some (.cells (bs.map (Value.int .u8)).toArray true))).size := by rw [Hp.size_push]; omega
      rw [← hbn] at hbit
      cases hv : bitN bs i with
      | true =>
        rw [hv] at hbit hstep
        simp (maxDischargeDepth := 16) only [z04, z05, z08, z09, z0a, z0b, z0d, z0e, z0f, z0i, z0l, z0o, z0p, z0q, z0s, z0t, z0v, z0w, z0z, z10, z11, z13, z18, z1e, z1v, z1z, z25, z27, z2b, z2d, z2v, z2x, z3b, z3c, z3f, z4e, z4f, z4g, z4h, z4i, z4z, z50, z51, z53, z5a, z7n, evalC_block, Hp.cell, tArrx31, tPartx5, hlt', bin_quo (show (8 : Int) ≠ 0 by decide), bin_rem (show (8 : Int) ≠ 0 by decide), bin_shr ps, e1, e2, e3, pa, pb, Int.toNat_natCast, Nat.mul_one, hg, gc, ne_f nc, ne_f0 nc, lt_t nc, lt_t0 nc, hbit]
        rw [hx, hstep]
        exact Al.done (by repeat (first | assumption | exact Keeps.refl _ | refine Keeps.push ?_ _ | refine Keeps.set ?_ (by first | omega | (simp only [Hp.size_push, Hp.size_setB]; omega)) _)) rfl rfl
      | false =>
        rw [hv] at hbit hstep
        simp (maxDischargeDepth := 16) only [z04, z08, z09, z0a, z0b, z0c, z0d, z0e, z0h, z0k, z0p, z0q, z0s, z0t, z0v, z0w, z0z, z10, z11, z13, z18, z1e, z1v, z1z, z24, z25, z27, z2b, z2d, z2v, z2x, z3b, z4e, z4f, z4g, z4h, z4i, z50, z51, z53, z5a, z7n, evalC_block, Hp.cell, tArrx31, tPartx5, hlt', bin_quo (show (8 : Int) ≠ 0 by decide), bin_rem (show (8 : Int) ≠ 0 by decide), bin_shr ps, e1, e2, e3, pa, pb, Int.toNat_natCast, Nat.mul_one, hg, gc, ne_f nc, ne_f0 nc, lt_t nc, lt_t0 nc, hbit, w3]
        exact ih (m - 1) _ _ (by omega) ⟨i + 1, by omega, by rw [hx, hstep]; rfl, .inl (by omega), rfl, rfl, rfl, rfl, rfl⟩
    · have hlt' : ((i : Int) < 128) = False := eq_false (by omega)
      simp (maxDischargeDepth := 16) only [z05, z06, z08, z09, z0a, z0c, z0d, z0e, z0g, z0j, z0m, z0o, z0p, z0q, z0s, z0t, z0v, z0w, z0z, z10, z11, z13, z2d, z3b, z3c, z3f, z4e, z4f, z4g, z4h, z4i, z4z, z5b, z7n, ↓reduceIte, hlt']
      rw [hx, show 128 - i = 0 by omega]
      exact Al.done (by repeat (first | assumption | exact Keeps.refl _ | refine Keeps.push ?_ _ | refine Keeps.set ?_ (by first | omega | (simp only [Hp.size_push, Hp.size_setB]; omega)) _)) rfl rfl
  · omega
  · exact ⟨n, rfl, rfl, .inr rfl, rfl, rfl, rfl, rfl, rfl⟩
def F112 (args : Array Value) (_ : Hp) : Option Value :=
  match args.toList with
  | [.agg cs, .int .i64 n] => match bytesV cs.toList with
    | some bs => if bs.length = 16 ∧ 0 ≤ n ∧ n < 4611686018427387904 then some (.bool (clrN bs (128 - n.toNat) n.toNat)) else none
    | none => none
  | _ => none
theorem con112 : Con Tryz.prog (CKb Tryz.prog) 112 (fun args h => (F112 args h).map fun v => (v, h)) := Con.clean base ok0 fun args h v hv hro ha => by
  unfold F112 at hv
  split at hv
  · rename_i cs n hargs
    split at hv
    · rename_i bs hbs
      split at hv
      · rename_i hc
        obtain ⟨h1, h2, h3⟩ := hc
        cases hv
        obtain ⟨e1, e2⟩ := bytesV_is _ _ hbs
        obtain ⟨v, k, q1, q2, q3, rfl⟩ := run112 (I := I0) rfl (N := 300) (h := h) h1 e2 (n := n.toNat) (by omega) (by omega) hro
        refine ⟨300, k, ?_, q2.get, by simp⟩
        have : args = #[.agg (bs.map (.int .u8)).toArray, .int .i64 ((n.toNat : Nat) : Int)] := by
          rw [Int.toNat_of_nonneg h2, ← e1]
          apply Array.ext'
          rw [hargs]
        rw [this]
        exact q1
      · cases hv
    · cases hv
  · cases hv
end Go.Abs.D1
