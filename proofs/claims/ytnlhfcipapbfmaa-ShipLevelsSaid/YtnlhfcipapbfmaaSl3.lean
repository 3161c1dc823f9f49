/- Ships: levels: the two journals. -/
import Derived.Test.YtnlhfcipapbfmaaSl2
namespace Go.Abs.B1
open Go.Proofs
set_option maxRecDepth 10000
set_option maxHeartbeats 4000000
set_option linter.all false
def epI (rise : List Int) : Nat → Int
  | 0 => 1
  | i + 1 => epI rise i + (if (i : Int) ∈ rise then 3 else 0)
theorem epI_pos (rise : List Int) : ∀ n, 1 ≤ epI rise n ∧ epI rise n ≤ 1 + 3 * n
  | 0 => by simp [epI]
  | n + 1 => by
    have := epI_pos rise n
    unfold epI
    split <;> omega
def comL (rise : List Int) (n : Nat) : List (Int × Int) := (List.range n).map fun i : Nat => (epI rise (i + 1), (i : Int) + 1)
theorem comL_succ (rise : List Int) (n : Nat) : comL rise (n + 1) = comL rise n ++ [(epI rise (n + 1), (n : Int) + 1)] := by
  unfold comL; rw [List.range_succ, List.map_append]; rfl
theorem comL_len (rise : List Int) (n : Nat) : (comL rise n).length = n := by unfold comL; simp
def ownL (E : Int) (c n : Nat) : List (Int × Int) := (List.range n).map fun j : Nat => (E, (c : Int) + (j : Int) + 1)
theorem ownL_succ (E : Int) (c n : Nat) : ownL E c (n + 1) = ownL E c n ++ [(E, (c : Int) + (n : Int) + 1)] := by
  unfold ownL; rw [List.range_succ, List.map_append]; rfl
theorem ownL_len (E : Int) (c n : Nat) : (ownL E c n).length = n := by unfold ownL; simp
def remN (x : Int) (n : Int) : Nat := (IntKind.u64.wrap x % n).toNat
theorem remN_is (x : Int) (n : Nat) (h0 : 0 < n) (h1 : n < 100) : IntKind.i64.wrap ((IntKind.u64.wrap x).tmod (n : Int)) = (remN x (n : Int) : Int) ∧ remN x (n : Int) < n := by
  have hw : 0 ≤ IntKind.u64.wrap x := by rw [wrapU64]; omega
  unfold remN
  have h2 := Int.emod_nonneg (IntKind.u64.wrap x) (b := (n : Int)) (by omega)
  have h3 := Int.emod_lt_of_pos (IntKind.u64.wrap x) (b := (n : Int)) (by omega)
  rw [Int.tmod_eq_emod_of_nonneg hw, i64_in (by omega) (by omega)]
  omega
def cN (x : T106) : Nat := remN x.1 12
def mN (x : T106) : Nat := remN x.2.1 10
def tN (x : T106) : Nat := remN x.2.2.1 10
def E0 (x : T106) : Int := epI x.2.2.2.1 (cN x)
def madeA (x : T106) : T36 := cutV' (E0 x) ((comL x.2.2.2.1 (cN x) ++ ownL (E0 x + 2) (cN x) (mN x)).map ent) (min (remN x.2.2.2.2.1 13) (cN x))
def madeB (x : T106) : T36 := cutV' (E0 x) ((comL x.2.2.2.1 (cN x) ++ ownL (E0 x + 1) (cN x) (tN x)).map ent) (min (remN x.2.2.2.2.2 13) (cN x))
def z36 : Array Value := #[.int .u64 0, .int .u64 0, .int .u64 0, .slice none 0 0, .int .u32 0, .int .u64 0, .int .u32 0, .int .u64 0, .int .u32 0, .int .u64 0, .slice none 0 0]
/-- The cells of the function that makes the journals. -/
structure Bs (k k' : Hp) (box : Array Value) (c : Nat) (E : Int) : Prop where
  keeps : Keeps k k'
  ro : k'.ro = k.ro
  size : k.size + 5 ≤ k'.size
  box : k'.get k.size = some (.cells box true)
  r1 : k'.get (k.size + 1) = some (.cells z36 true)
  r2 : k'.get (k.size + 2) = some (.cells z36 true)
  c : k'.get (k.size + 3) = some (.cells #[.int .i64 (c : Int)] true)
  e : k'.get (k.size + 4) = some (.cells #[.int .u64 E] true)
theorem Bs.next {k k' k2 : Hp} {box : Array Value} {c : Nat} {E : Int} (b : Bs k k' box c E) (h1 : ∀ d, d < k.size + 5 → k2.get d = k'.get d) (h2 : k'.size ≤ k2.size) (h3 : k2.ro = k'.ro) : Bs k k2 box c E :=
  ⟨⟨by have := b.keeps.size; omega, fun d hd => (h1 d (by omega)).trans (b.keeps.get d hd)⟩, h3.trans b.ro, by have := b.size; omega, (h1 _ (by omega)).trans b.box, (h1 _ (by omega)).trans b.r1, (h1 _ (by omega)).trans b.r2, (h1 _ (by omega)).trans b.c, (h1 _ (by omega)).trans b.e⟩
theorem Bs.keep {k k' k2 : Hp} {box : Array Value} {c : Nat} {E : Int} (b : Bs k k' box c E) (h : Keeps k' k2) (h3 : k2.ro = k'.ro) : Bs k k2 box c E := b.next (fun d hd => h.get d (by have := b.size; omega)) h.size h3
theorem run40 {I : Intr} (hI : I 40 = none) (hI76 : I 76 = some g76) (hI77 : I 77 = none) (hI52 : I 52 = none) (hI78 : I 78 = none) {N : Nat} {k : Hp} {cs : List Value} {x : T106} (r : R106.r false (· < k.size) k cs x) (hro : k.ro ≤ k.size) (hN : 60 < N) :
    Al k (fun k' w => ∃ ds es, w = .tuple #[.agg ds.toArray, .agg es.toArray] ∧ R36.r false (· < k'.size) k' ds (madeA x) ∧ R36.r false (· < k'.size) k' es (madeB x)) (evalV Try.prog I N (.fn 40) #[.agg cs.toArray] k) := by
  obtain ⟨N, rfl⟩ : ∃ n, N = n + 1 := ⟨N - 1, by omega⟩
  obtain ⟨v1, rfl, b1, b2, b3, hv1, b4, b5⟩ := R106_inv r
  have o1 : oneC v1 = true := (Rp.slice (Rp.int .i64)).rone hv1 v1 (by simp)
  have p0 : (k.ro ≤ k.size) = True := eq_true hro
  have p1 : ∀ j, (k.ro ≤ k.size + j) = True := fun j => eq_true (by omega)
  rw [evalV_call (P := Try.prog) (intr := I) (f := 40) (m := 102) (rs := #[.cell 2 36, .cell 3 36]) hI Try.func40 rfl rfl rfl]
  simp (maxDischargeDepth := 16) only [z08, z09, z0d, z0e, z0p, z0q, z0s, z0t, z0v, z1g, z1h, z2o, z2z, z3a, z3b, z4a, z4e, z4g, z4h, z4i, z4p, z4q, z4r, z4s, z4t, z4u, z4w, z4x, z4y, z4z, z53, z7t, Nat.reduceAdd, Nat.reduceSub, tZerox36]
  rw [evalDraw_modes _ _ [(0, 0, 1), (2, 1, 3), (0, 3, 7), (0, 7, 15), (0, 15, 31), (0, 0, 32), (3, 32, 96), (0, 96, 224), (0, 224, 480), (0, 480, 992), (0, 0, 1024), (3, 1024, 3072), (0, 3072, 7168), (0, 7168, 15360), (0, 15360, 31744), (2, 0, 32768), (5, 131074, 98335), (0, 99327, 230399), (0, 262143, 524287)] (by kernel_rfl)]
  have t12 := (remN_is x.1 12 (by decide) (by decide)).1
  have t10 := (remN_is x.2.1 10 (by decide) (by decide)).1
  have t10' := (remN_is x.2.2.1 10 (by decide) (by decide)).1
  have hc12 : cN x < 12 := (remN_is x.1 12 (by decide) (by decide)).2
  have hm10 : mN x < 10 := (remN_is x.2.1 10 (by decide) (by decide)).2
  have ht10 : tN x < 10 := (remN_is x.2.2.1 10 (by decide) (by decide)).2
  have n12 := fun a => bin_rem (P := Try.prog) (t := 102) (k := .u64) (x := a) (y := 12) (by decide)
  have n10 := fun a => bin_rem (P := Try.prog) (t := 102) (k := .u64) (x := a) (y := 10) (by decide)
  simp only [Int.cast_ofNat_Int] at t12 t10 t10'
  rw [show remN x.1 12 = cN x from rfl] at t12
  rw [show remN x.2.1 10 = mN x from rfl] at t10
  rw [show remN x.2.2.1 10 = tN x from rfl] at t10'
  simp (maxDischargeDepth := 16) only [z08, z09, z0d, z0e, z0p, z0q, z0s, z0t, z0u, z0v, z0w, z0z, z10, z11, z13, z15, z16, z1e, z1f, z1g, z1v, z1w, z1x, z2m, z2w, z2x, z2y, z2z, z33, z34, z35, z37, z38, z39, z3a, z3b, z3p, z3v, z3w, z44, z45, z46, z49, z4a, z4b, z4c, z4d, z4e, z4f, z4g, z4h, z4i, z4m, z4n, z4o, z4p, z4q, z4r, z4z, z50, z51, z53, z54, z5a, z5b, z5f, z5j, z5l, z5t, z5u, z5x, z62, z66, z6a, z6g, z6h, z6i, z6j, z6o, z6t, z6v, z6x, z6y, z6z, z70, z71, z72, z74, z77, z79, z7a, z7c, z7d, z7e, z7z, z8c, z8e, z8i, z8j, z8k, z8l, z8m, z8n, z8o, z8p, z8q, z8r, z8s, z8t, evalC_block, Nat.reduceEqDiff, Nat.reduceLeDiff, Nat.reduceAdd, Nat.reduceSub, ↓reduceIte, Nat.reduceDiv, Nat.reduceMod, Nat.reducePow, Nat.reduceLT, Int.reduceLT, keepR, Hp.cell, Hp.wr, tFieldAx106x0, tFieldAx106x1, tFieldAx106x2, tIntx3x102, tIntx102x3, tPartx3, tSizex3, tSizex22, tZerox3, tZerox22, p1, n12, n10, t12, t10, t10']
  have r0 := r
  refine loop_rule (Al k _) (fun m y k' => ∃ (i : Nat) (w : Value) (b? : Option Nat), m = cN x - i ∧ i ≤ cN x ∧ Bs k k' #[.int .i64 x.1, .int .i64 x.2.1, .int .i64 x.2.2.1, v1, .int .i64 x.2.2.2.2.1, .int .i64 x.2.2.2.2.2] (cN x) (epI x.2.2.2.1 i) ∧ OwnC RE k' w b? (comL x.2.2.2.1 i) ∧ (∀ b, b? = some b → k.size + 5 ≤ b) ∧
    y.tmps.size = 102 ∧ y.defers = [] ∧ y.tmps.getD 1 undef = .pointer (some ⟨k.size, 0, none⟩) ∧ y.tmps.getD 2 undef = .pointer (some ⟨k.size + 1, 0, none⟩) ∧ y.tmps.getD 3 undef = .pointer (some ⟨k.size + 2, 0, none⟩) ∧ y.tmps.getD 4 undef = .pointer (some ⟨k.size + 3, 0, none⟩) ∧ y.tmps.getD 5 undef = .int .i64 (mN x : Int) ∧ y.tmps.getD 6 undef = .int .i64 (tN x : Int) ∧ y.tmps.getD 7 undef = .pointer (some ⟨k.size + 4, 0, none⟩) ∧ y.tmps.getD 8 undef = w ∧ y.tmps.getD 30 undef = .int .i64 (cN x : Int) ∧ y.tmps.getD 31 undef = .int .i64 (i : Int)) ?_ _ (cN x) _ _ ?_ ?_
  · intro m n' y k' hI' ih
    obtain ⟨i, w, b?, hm, hi, hB, hO, hb, hxs, hxd, l1, l2, l3, l4, l5, l6, l7, l8, l30, l31⟩ := hI'
    obtain ⟨g, rfl⟩ : ∃ g : Nat → Value, y = { tmps := #[g 0, .pointer (some ⟨k.size, 0, none⟩), .pointer (some ⟨k.size + 1, 0, none⟩), .pointer (some ⟨k.size + 2, 0, none⟩), .pointer (some ⟨k.size + 3, 0, none⟩), .int .i64 (mN x : Int), .int .i64 (tN x : Int), .pointer (some ⟨k.size + 4, 0, none⟩), w, g 9, g 10, g 11, g 12, g 13, g 14, g 15, g 16, g 17, g 18, g 19, g 20, g 21, g 22, g 23, g 24, g 25, g 26, g 27, g 28, g 29, .int .i64 (cN x : Int), .int .i64 (i : Int), g 32, g 33, g 34, g 35, g 36, g 37, g 38, g 39, g 40, g 41, g 42, g 43, g 44, g 45, g 46, g 47, g 48, g 49, g 50, g 51, g 52, g 53, g 54, g 55, g 56, g 57, g 58, g 59, g 60, g 61, g 62, g 63, g 64, g 65, g 66, g 67, g 68, g 69, g 70, g 71, g 72, g 73, g 74, g 75, g 76, g 77, g 78, g 79, g 80, g 81, g 82, g 83, g 84, g 85, g 86, g 87, g 88, g 89, g 90, g 91, g 92, g 93, g 94, g 95, g 96, g 97, g 98, g 99, g 100, g 101], defers := [] } := ⟨fun k => y.tmps.getD k undef, (act_eta hxs hxd).trans (by simp only [unrollL, Nat.reduceAdd, Nat.zero_add, l1, l2, l3, l4, l5, l6, l7, l8, l30, l31])⟩; clear hxs hxd l1 l2 l3 l4 l5 l6 l7 l8 l30 l31
    obtain ⟨aw, cw, rfl⟩ := hO.form
    have hs := hB.size
    have m0 : k.size < k'.size := by omega
    have m4 : k.size + 4 < k'.size := by omega
    by_cases hlt : i < cN x
    · have hlt' := lt_cast hlt
      obtain ⟨q1, q2, q3⟩ := dec_meas hlt hm
      have w3 := i64_succ (i := i) (by omega)
      have hE := epI_pos x.2.2.2.1 i
      have wu : IntKind.u32.wrap (i : Int) = (i : Int) := u32_in (by omega) (by omega)
      have wu2 : IntKind.u32.wrap ((i : Int) + 1) = (i : Int) + 1 := u32_in (by omega) (by omega)
      have c76 := call_rdk (P := Try.prog) (A := A95) (I := I) (f := 76) (spec := fun x => .bool (decide (x.2.1 ∈ x.1))) hI76 N (show A95.r (· < k'.size) k' [v1, .int .i64 (i : Int)] (x.2.2.2.1, (i : Int), ()) from ⟨_, _, rfl, R95.mono hv1 (fun b hb => by omega) id (hB.keeps.fr fun _ h => h), _, _, rfl, ⟨rfl, by constructor <;> simp [IntKind.min, IntKind.max, IntKind.bits, IntKind.signed] <;> omega⟩, rfl⟩) (by omega)
      have rr : ∀ j, (k'.ro ≤ k.size + j) = True := fun j => eq_true (by rw [hB.ro]; omega)
      have key : ∀ k2 : Hp, Bs k k2 #[.int .i64 x.1, .int .i64 x.2.1, .int .i64 x.2.2.1, v1, .int .i64 x.2.2.2.2.1, .int .i64 x.2.2.2.2.2] (cN x) (epI x.2.2.2.1 (i + 1)) → OwnC RE k2 (.slice aw (comL x.2.2.2.1 i).length cw) b? (comL x.2.2.2.1 i) →
          Ex (fun v' k3 => ∃ b', OwnC RE k3 v' (some b') (comL x.2.2.2.1 (i + 1)) ∧ k.size + 5 ≤ b' ∧ Bs k k3 #[.int .i64 x.1, .int .i64 x.2.1, .int .i64 x.2.2.1, v1, .int .i64 x.2.2.2.2.1, .int .i64 x.2.2.2.2.2] (cN x) (epI x.2.2.2.1 (i + 1))) (aAppend Try.prog #[34, 34] #[.slice aw (comL x.2.2.2.1 i).length cw, .slice (some ⟨k2.size, 0, none⟩) 1 1] (k2.push (some (.cells #[.int .u64 (epI x.2.2.2.1 (i + 1)), .int .i64 1, .int .u32 ((i : Int) + 1), .slice none 0 0] true)))) := fun k2 hB2 hO2 => by
        have hE1 := epI_pos x.2.2.2.1 (i + 1)
        have hs2 := hB2.size
        obtain ⟨v', k3, e1, b', e2, e3, e4, e5⟩ := OwnC.append_ex (P := Try.prog) (t := 34) (tx := 34) (e := RE) (x := (epI x.2.2.2.1 (i + 1), (i : Int) + 1)) (lit := k2.size) (cs := #[.int .u64 (epI x.2.2.2.1 (i + 1)), .int .i64 1, .int .u32 ((i : Int) + 1), .slice none 0 0]) tRowx34 (by kernel_rfl) rfl (by decide)
          (hO2.mono (k' := k2.push _) (by simp) (fun c hc => get_push_ne (by have := (show c < k2.size by subst hc; exact hO2.lt); omega))) (fun c hc => by have := hb c hc; simp only [Hp.ro_push]; rw [hB2.ro]; omega) get_push_self ⟨rfl, by constructor <;> simp [IntKind.min, IntKind.max, IntKind.bits, IntKind.signed] <;> omega, by constructor <;> simp [IntKind.min, IntKind.max, IntKind.bits, IntKind.signed] <;> omega⟩ (by simp [flatB]) (by rw [comL_len]; omega) (by rw [comL_len]; unfold capOpen; omega)
        simp only [Hp.size_push, Hp.ro_push] at e3 e4 e5
        refine ⟨v', k3, e1, b', by rw [comL_succ]; exact e2, ?_, hB2.next (fun d hd => ?_) (by omega) (by omega)⟩
        · rcases e3 with ⟨e3, -⟩ | ⟨e3, -⟩
          · exact hb b' e3
          · omega
        · rw [e5 d (by omega) (fun h => by have := hb d h; omega), get_push_ne (by omega)]
      by_cases hmem : (i : Int) ∈ x.2.2.2.1
      · have he1 : epI x.2.2.2.1 (i + 1) = epI x.2.2.2.1 i + 3 := by conv => lhs; unfold epI
                                                                     rw [if_pos hmem]
        have w5 : IntKind.u64.wrap (epI x.2.2.2.1 i + 3) = epI x.2.2.2.1 (i + 1) := by rw [he1]; exact u64_in (by omega) (by omega)
        simp (maxDischargeDepth := 16) only [z04, z08, z09, z0a, z0b, z0d, z0e, z0p, z0q, z0s, z0t, z0u, z0v, z0w, z0x, z0z, z10, z11, z13, z15, z16, z1e, z1f, z1l, z1v, z1w, z1x, z24, z2d, z2m, z2w, z2x, z2y, z33, z3b, z3h, z3p, z3v, z3w, z44, z45, z46, z49, z4e, z4f, z4g, z4h, z4i, z4j, z4k, z4l, z4m, z4n, z4o, z4p, z4q, z4r, z4s, z4u, z4v, z50, z51, z53, z5a, z5f, z72, z7v, z7z, evalC_block, ↓reduceIte, Hp.cell, Hp.wr, hasBx52, hasBx76, tFieldAx106x3, tIntx3x28, tPartx22, tPartx95, tSizex22, hlt', hB.box, hB.e, ne_f m0, ne_f0 m0, lt_t m0, lt_t0 m0, ne_f m4, ne_f0 m4, lt_t m4, lt_t0 m4, c76, eq_true hmem, rr, w5, wu, wu2]
        refine ex_kops (Al.ex (run52 hI52 (k := k'.setB (k.size + 4) (some (.cells #[.int .u64 (epI x.2.2.2.1 (i + 1))] true))) (by simp only [Hp.ro_setB, Hp.size_setB]; rw [hB.ro]; omega) _ _ (by omega))) ?_
        rintro _ k2 ⟨hk2, hr2, rfl⟩
        have hB1 : Bs k (k'.setB (k.size + 4) (some (.cells #[.int .u64 (epI x.2.2.2.1 (i + 1))] true))) #[.int .i64 x.1, .int .i64 x.2.1, .int .i64 x.2.2.1, v1, .int .i64 x.2.2.2.2.1, .int .i64 x.2.2.2.2.2] (cN x) (epI x.2.2.2.1 (i + 1)) := ⟨⟨by simp only [Hp.size_setB]; omega, fun d hd => by rw [get_set_ne (by omega)]; exact hB.keeps.get d hd⟩, hB.ro, by simp only [Hp.size_setB]; omega, (get_set_ne (by omega)).trans hB.box, (get_set_ne (by omega)).trans hB.r1, (get_set_ne (by omega)).trans hB.r2, (get_set_ne (by omega)).trans hB.c, get_set_self⟩
        have hB2 := hB1.keep hk2 hr2
        have hO2 : OwnC RE k2 (.slice aw (comL x.2.2.2.1 i).length cw) b? (comL x.2.2.2.1 i) := hO.mono (by have := hk2.size; simp only [Hp.size_setB] at this; omega) (fun c hc => by have := hb c hc; have := (show c < k'.size by subst hc; exact hO.lt); rw [hk2.get c (by simp only [Hp.size_setB]; omega)]; exact get_set_ne (by omega))
        simp (maxDischargeDepth := 16) only [z0q, z0s, z0t, z0v, z1i, z1m, z2o, z3b, z4e, z4f, z4g, z4h, z4i, z4j, z4k, z4l, z4p, z4q, z4r, z4z, z50, z53, z7d, z88, Nat.reduceLeDiff, Nat.reduceAdd, tRowx34]
        refine ex_kops (key k2 hB2 hO2) ?_
        rintro v3 k3 ⟨b3, hO3, hb3, hB3⟩
        simp (maxDischargeDepth := 16) only [z08, z0d, z0e, z0h, z0k, z0p, z0q, z0s, z0t, z0v, z0w, z0z, z10, z11, z13, z24, z3b, z4e, z4f, z4g, z4h, z4i, w3]
        exact ih (m - 1) _ _ q1 ⟨i + 1, _, _, q2, q3, hB3, hO3, fun b hb' => by cases hb'; exact hb3, rfl, rfl, rfl, rfl, rfl, rfl, rfl, rfl, rfl, rfl, rfl, rfl⟩
      · have he1 : epI x.2.2.2.1 (i + 1) = epI x.2.2.2.1 i := by conv => lhs; unfold epI
                                                                 rw [if_neg hmem, Int.add_zero]
        simp (maxDischargeDepth := 16) only [z04, z08, z09, z0a, z0b, z0c, z0d, z0e, z0p, z0q, z0s, z0t, z0v, z0w, z0x, z0z, z10, z11, z13, z15, z16, z1e, z1l, z1v, z24, z2d, z2w, z2x, z3b, z3h, z4e, z4f, z4g, z4h, z4i, z4j, z4k, z4l, z4m, z4n, z4o, z4s, z4u, z4v, z50, z51, z53, z5a, z5b, z7v, z7z, evalC_block, ↓reduceIte, Hp.cell, hasBx52, hasBx76, tFieldAx106x3, tIntx3x28, tPartx22, tPartx95, hlt', hB.box, hB.e, ne_f m0, ne_f0 m0, lt_t m0, lt_t0 m0, ne_f m4, ne_f0 m4, lt_t m4, lt_t0 m4, c76, eq_false hmem, wu, wu2, ← he1]
        refine ex_kops (Al.ex (run52 hI52 (k := k') (by rw [hB.ro]; omega) _ _ (by omega))) ?_
        rintro _ k2 ⟨hk2, hr2, rfl⟩
        have hB1 : Bs k (k') #[.int .i64 x.1, .int .i64 x.2.1, .int .i64 x.2.2.1, v1, .int .i64 x.2.2.2.2.1, .int .i64 x.2.2.2.2.2] (cN x) (epI x.2.2.2.1 (i + 1)) := by rw [he1]; exact hB
        have hB2 := hB1.keep hk2 hr2
        have hO2 : OwnC RE k2 (.slice aw (comL x.2.2.2.1 i).length cw) b? (comL x.2.2.2.1 i) := hO.mono (by have := hk2.size; omega) (fun c hc => by have := hb c hc; have := (show c < k'.size by subst hc; exact hO.lt); exact hk2.get c (by omega))
        simp (maxDischargeDepth := 16) only [z0q, z0s, z0t, z0v, z1i, z1m, z2o, z3b, z4e, z4f, z4g, z4h, z4i, z4j, z4k, z4l, z4p, z4q, z4r, z4z, z50, z53, z7d, z88, Nat.reduceLeDiff, Nat.reduceAdd, tRowx34]
        refine ex_kops (key k2 hB2 hO2) ?_
        rintro v3 k3 ⟨b3, hO3, hb3, hB3⟩
        simp (maxDischargeDepth := 16) only [z08, z0d, z0e, z0h, z0k, z0p, z0q, z0s, z0t, z0v, z0w, z0z, z10, z11, z13, z24, z3b, z4e, z4f, z4g, z4h, z4i, w3]
        exact ih (m - 1) _ _ q1 ⟨i + 1, _, _, q2, q3, hB3, hO3, fun b hb' => by cases hb'; exact hb3, rfl, rfl, rfl, rfl, rfl, rfl, rfl, rfl, rfl, rfl, rfl, rfl⟩
    · have hlt' := nlt_cast hlt
      obtain rfl : i = cN x := by omega
      simp (maxDischargeDepth := 16) only [z06, z08, z09, z0a, z0c, z0d, z0e, z0g, z0j, z0m, z0p, z0q, z0s, z0t, z0v, z0x, z0z, z10, z13, z1l, z2d, z3b, z3h, z4e, z4f, z4g, z4h, z4i, z4j, z4k, z4l, z4s, z4u, z4v, z5b, ↓reduceIte, hasBx77, hlt']
      refine al_kops (run77c hI77 (by omega) hO (by rw [hB.ro]; omega) (by rw [comL_len]; omega)) ?_
      rintro wa k2 hk2 hr2 ⟨a?, hOa, ha⟩
      have hB2 := hB.keep hk2 hr2
      have hO2 : OwnC RE k2 (.slice aw (comL x.2.2.2.1 (cN x)).length cw) b? (comL x.2.2.2.1 (cN x)) := hO.mono (by have := hk2.size; omega) (fun c hc => by have := (show c < k'.size by subst hc; exact hO.lt); exact hk2.get c (by omega))
      simp (maxDischargeDepth := 16) only [z0q, z0s, z0t, z0v, z0x, z10, z1l, z3b, z3h, z4e, z4f, z4g, z4h, z4i, z4j, z4k, z4l, z4s, z4u, z4v, ↓reduceIte, hasBx77]
      refine al_kops (run77c hI77 (by omega) hO2 (by rw [hB2.ro]; have := hB2.size; omega) (by rw [comL_len]; omega)) ?_
      rintro wb k3 hk3 hr3 ⟨bb?, hOb, hbb⟩
      have hB3 := hB2.keep hk3 hr3
      have hOa3 : OwnC RE k3 wa a? (comL x.2.2.2.1 (cN x)) := hOa.mono (by have := hk3.size; omega) (fun c hc => by have := (show c < k2.size by subst hc; exact hOa.lt); exact hk3.get c (by omega))
      obtain ⟨oa, ca, rfl⟩ := hOa.form
      obtain ⟨ob, cb, rfl⟩ := hOb.form
      have hEp := epI_pos x.2.2.2.1 (cN x)
      have hE00 : E0 x = epI x.2.2.2.1 (cN x) := rfl
      rw [← hE00] at hB3 hEp
      have hbk5 : ∀ b, bb? = some b → k.size + 5 ≤ b := fun b hb' => by have := hbb b hb'; have := hB2.size; omega
      have hdis : ∀ b, a? = some b → b < k2.size := fun b hb' => by subst hb'; exact hOa.lt
      have hbig : ∀ b, bb? = some b → b < k3.size := fun b hb' => by subst hb'; exact hOb.lt
      simp (maxDischargeDepth := 16) only [z08, z09, z0d, z0e, z0p, z0q, z0s, z0t, z0v, z0w, z10, z11, z3b, z4e, z4f, z4g, z4h, z4i, evalC_block]
      refine loop_rule (Al k _) (fun m y k' => ∃ (i : Nat) (w : Value) (b? : Option Nat), m = mN x - i ∧ i ≤ mN x ∧ Bs k k' #[.int .i64 x.1, .int .i64 x.2.1, .int .i64 x.2.2.1, v1, .int .i64 x.2.2.2.2.1, .int .i64 x.2.2.2.2.2] (cN x) (E0 x) ∧ OwnC RE k' w b? (comL x.2.2.2.1 (cN x) ++ ownL (E0 x + 2) (cN x) i) ∧ (∀ b, b? = some b → k.size + 5 ≤ b) ∧ OwnC RE k' (.slice ob (comL x.2.2.2.1 (cN x)).length cb) bb? (comL x.2.2.2.1 (cN x)) ∧ (∀ b, b? = some b → bb? ≠ some b) ∧
        y.tmps.size = 102 ∧ y.defers = [] ∧ y.tmps.getD 1 undef = .pointer (some ⟨k.size, 0, none⟩) ∧ y.tmps.getD 2 undef = .pointer (some ⟨k.size + 1, 0, none⟩) ∧ y.tmps.getD 3 undef = .pointer (some ⟨k.size + 2, 0, none⟩) ∧ y.tmps.getD 4 undef = .pointer (some ⟨k.size + 3, 0, none⟩) ∧ y.tmps.getD 6 undef = .int .i64 (tN x : Int) ∧ y.tmps.getD 7 undef = .pointer (some ⟨k.size + 4, 0, none⟩) ∧ y.tmps.getD 10 undef = w ∧ y.tmps.getD 11 undef = .slice ob (comL x.2.2.2.1 (cN x)).length cb ∧ y.tmps.getD 53 undef = .int .i64 (mN x : Int) ∧ y.tmps.getD 54 undef = .int .i64 (i : Int)) ?_ _ (mN x) _ _ ?_ ?_
      · intro m n' y k' hI' ih
        obtain ⟨i, w, b?, hm, hi, hB, hO, hb, hOo, hoo, hxs, hxd, l1, l2, l3, l4, l6, l7, l10, l11, l53, l54⟩ := hI'
        obtain ⟨g, rfl⟩ : ∃ g : Nat → Value, y = { tmps := #[g 0, .pointer (some ⟨k.size, 0, none⟩), .pointer (some ⟨k.size + 1, 0, none⟩), .pointer (some ⟨k.size + 2, 0, none⟩), .pointer (some ⟨k.size + 3, 0, none⟩), g 5, .int .i64 (tN x : Int), .pointer (some ⟨k.size + 4, 0, none⟩), g 8, g 9, w, .slice ob (comL x.2.2.2.1 (cN x)).length cb, g 12, g 13, g 14, g 15, g 16, g 17, g 18, g 19, g 20, g 21, g 22, g 23, g 24, g 25, g 26, g 27, g 28, g 29, g 30, g 31, g 32, g 33, g 34, g 35, g 36, g 37, g 38, g 39, g 40, g 41, g 42, g 43, g 44, g 45, g 46, g 47, g 48, g 49, g 50, g 51, g 52, .int .i64 (mN x : Int), .int .i64 (i : Int), g 55, g 56, g 57, g 58, g 59, g 60, g 61, g 62, g 63, g 64, g 65, g 66, g 67, g 68, g 69, g 70, g 71, g 72, g 73, g 74, g 75, g 76, g 77, g 78, g 79, g 80, g 81, g 82, g 83, g 84, g 85, g 86, g 87, g 88, g 89, g 90, g 91, g 92, g 93, g 94, g 95, g 96, g 97, g 98, g 99, g 100, g 101], defers := [] } := ⟨fun k => y.tmps.getD k undef, (act_eta hxs hxd).trans (by simp only [unrollL, Nat.reduceAdd, Nat.zero_add, l1, l2, l3, l4, l6, l7, l10, l11, l53, l54])⟩; clear hxs hxd l1 l2 l3 l4 l6 l7 l10 l11 l53 l54
        obtain ⟨aw, cw, rfl⟩ := hO.form
        have hs := hB.size
        have m3 : k.size + 3 < k'.size := by omega
        have m4 : k.size + 4 < k'.size := by omega
        by_cases hlt : i < mN x
        · have hlt' := lt_cast hlt
          obtain ⟨q1, q2, q3⟩ := dec_meas hlt hm
          have w3 := i64_succ (i := i) (by omega)
          have w5 : IntKind.u64.wrap (E0 x + 2) = E0 x + 2 := u64_in (by omega) (by omega)
          have wi : IntKind.i64.wrap ((cN x : Int) + (i : Int)) = (cN x : Int) + (i : Int) := i64_in (by omega) (by omega)
          have wu : IntKind.u32.wrap ((cN x : Int) + (i : Int)) = (cN x : Int) + (i : Int) := u32_in (by omega) (by omega)
          have wu2 : IntKind.u32.wrap ((cN x : Int) + (i : Int) + 1) = (cN x : Int) + (i : Int) + 1 := u32_in (by omega) (by omega)
          simp (maxDischargeDepth := 16) only [z04, z08, z09, z0a, z0b, z0d, z0e, z0p, z0q, z0s, z0t, z0v, z0w, z0x, z0z, z10, z11, z13, z15, z1e, z1l, z1v, z24, z2d, z2x, z3b, z3h, z4e, z4f, z4g, z4h, z4i, z4j, z4k, z4l, z4m, z4n, z4s, z4u, z4v, z50, z51, z5a, z7z, evalC_block, ↓reduceIte, Hp.cell, hasBx52, tIntx3x28, tPartx3, tPartx22, hlt', hB.e, hB.c, ne_f m3, ne_f0 m3, lt_t m3, lt_t0 m3, ne_f m4, ne_f0 m4, lt_t m4, lt_t0 m4, w5, wi, wu, wu2]
          refine ex_kops (Al.ex (run52 hI52 (k := k') (by rw [hB.ro]; omega) _ _ (by omega))) ?_
          rintro _ k2 ⟨hk2, hr2, rfl⟩
          have hB2 := hB.keep hk2 hr2
          have hs2 := hB2.size
          have hO2 : OwnC RE k2 (.slice aw (comL x.2.2.2.1 (cN x) ++ ownL (E0 x + 2) (cN x) i).length cw) b? (comL x.2.2.2.1 (cN x) ++ ownL (E0 x + 2) (cN x) i) := hO.mono (by have := hk2.size; omega) (fun c hc => by have := hb c hc; have := (show c < k'.size by subst hc; exact hO.lt); exact hk2.get c (by omega))
          simp (maxDischargeDepth := 16) only [z0q, z0s, z0t, z0v, z1i, z1m, z2o, z3b, z4e, z4f, z4g, z4h, z4i, z4j, z4k, z4l, z4p, z4q, z4r, z4z, z50, z53, z7d, z88, Nat.reduceLeDiff, Nat.reduceAdd, tRowx34]
          have hL : (comL x.2.2.2.1 (cN x) ++ ownL (E0 x + 2) (cN x) i).length = cN x + i := by rw [List.length_append, comL_len, ownL_len]
          refine ex_kops (OwnC.append_ex (P := Try.prog) (t := 34) (tx := 34) (e := RE) (x := (E0 x + 2, (cN x : Int) + (i : Int) + 1)) (lit := k2.size) (cs := #[.int .u64 (E0 x + 2), .int .i64 1, .int .u32 ((cN x : Int) + (i : Int) + 1), .slice none 0 0]) tRowx34 (by kernel_rfl) rfl (by decide)
            (hO2.mono (k' := k2.push _) (by simp) (fun c hc => get_push_ne (by have := (show c < k2.size by subst hc; exact hO2.lt); omega))) (fun c hc => by have := hb c hc; simp only [Hp.ro_push]; rw [hB2.ro]; omega) get_push_self ⟨rfl, by constructor <;> simp [IntKind.min, IntKind.max, IntKind.bits, IntKind.signed] <;> omega, by constructor <;> simp [IntKind.min, IntKind.max, IntKind.bits, IntKind.signed] <;> omega⟩ (by simp [flatB]) (by rw [hL]; omega) (by rw [hL]; unfold capOpen; omega)) ?_
          rintro v3 k3 ⟨b3, e2, e3, e4, e5⟩
          simp only [Hp.size_push, Hp.ro_push] at e3 e4 e5
          simp (maxDischargeDepth := 16) only [z08, z0d, z0e, z0h, z0k, z0p, z0q, z0s, z0t, z0v, z0w, z0z, z10, z11, z13, z24, z3b, z4e, z4f, z4g, z4h, z4i, w3]
          have holt : ∀ c, bb? = some c → c < k'.size := fun c hc => by rw [hc] at hOo; exact hOo.lt
          have hsk := hk2.size
          refine ih (m - 1) _ _ q1 ⟨i + 1, _, some b3, q2, q3, hB2.next (fun d hd => ?_) (by omega) (by omega), by rw [ownL_succ, ← List.append_assoc]; exact e2, fun b hb' => ?_, hOo.mono (by omega) (fun c hc => ?_), fun b hb' hc => ?_, rfl, rfl, rfl, rfl, rfl, rfl, rfl, rfl, rfl, rfl, rfl, rfl⟩
          · rw [e5 d (by omega) (fun h => by have := hb d h; omega), get_push_ne (by omega)]
          · cases hb'
            rcases e3 with ⟨e3, -⟩ | ⟨e3, -⟩
            · exact hb b3 e3
            · omega
          · have := holt c hc
            rw [e5 c (by omega) (fun h => hoo c h hc), get_push_ne (by omega), hk2.get c this]
          · cases hb'
            have := holt b3 hc
            rcases e3 with ⟨e3, -⟩ | ⟨e3, -⟩
            · exact hoo b3 e3 hc
            · omega
        · have hlt' := nlt_cast hlt
          obtain rfl : i = mN x := by omega
          simp (maxDischargeDepth := 16) only [z06, z08, z09, z0a, z0c, z0d, z0e, z0g, z0j, z0m, z0p, z0q, z0s, z0t, z0v, z0w, z0z, z10, z13, z2d, z3b, z4e, z4f, z4g, z4h, z4i, z5b, evalC_block, ↓reduceIte, hlt']
          have hb2 := hb
          refine loop_rule (Al k _) (fun m y k' => ∃ (i : Nat) (w : Value) (b3? : Option Nat), m = tN x - i ∧ i ≤ tN x ∧ Bs k k' #[.int .i64 x.1, .int .i64 x.2.1, .int .i64 x.2.2.1, v1, .int .i64 x.2.2.2.2.1, .int .i64 x.2.2.2.2.2] (cN x) (E0 x) ∧ OwnC RE k' w b3? (comL x.2.2.2.1 (cN x) ++ ownL (E0 x + 1) (cN x) i) ∧ (∀ b, b3? = some b → k.size + 5 ≤ b) ∧ OwnC RE k' (.slice aw (comL x.2.2.2.1 (cN x) ++ ownL (E0 x + 2) (cN x) (mN x)).length cw) b? (comL x.2.2.2.1 (cN x) ++ ownL (E0 x + 2) (cN x) (mN x)) ∧ (∀ b, b3? = some b → b? ≠ some b) ∧
            y.tmps.size = 102 ∧ y.defers = [] ∧ y.tmps.getD 1 undef = .pointer (some ⟨k.size, 0, none⟩) ∧ y.tmps.getD 2 undef = .pointer (some ⟨k.size + 1, 0, none⟩) ∧ y.tmps.getD 3 undef = .pointer (some ⟨k.size + 2, 0, none⟩) ∧ y.tmps.getD 4 undef = .pointer (some ⟨k.size + 3, 0, none⟩) ∧ y.tmps.getD 7 undef = .pointer (some ⟨k.size + 4, 0, none⟩) ∧ y.tmps.getD 10 undef = .slice aw (comL x.2.2.2.1 (cN x) ++ ownL (E0 x + 2) (cN x) (mN x)).length cw ∧ y.tmps.getD 11 undef = w ∧ y.tmps.getD 69 undef = .int .i64 (tN x : Int) ∧ y.tmps.getD 70 undef = .int .i64 (i : Int)) ?_ _ (tN x) _ _ ?_ ?_
          · intro m n' y k' hI' ih
            obtain ⟨i, w, b3?, hm, hi, hB, hO, hb, hOo, hoo, hxs, hxd, l1, l2, l3, l4, l7, l10, l11, l69, l70⟩ := hI'
            obtain ⟨g, rfl⟩ : ∃ g : Nat → Value, y = { tmps := #[g 0, .pointer (some ⟨k.size, 0, none⟩), .pointer (some ⟨k.size + 1, 0, none⟩), .pointer (some ⟨k.size + 2, 0, none⟩), .pointer (some ⟨k.size + 3, 0, none⟩), g 5, g 6, .pointer (some ⟨k.size + 4, 0, none⟩), g 8, g 9, .slice aw (comL x.2.2.2.1 (cN x) ++ ownL (E0 x + 2) (cN x) (mN x)).length cw, w, g 12, g 13, g 14, g 15, g 16, g 17, g 18, g 19, g 20, g 21, g 22, g 23, g 24, g 25, g 26, g 27, g 28, g 29, g 30, g 31, g 32, g 33, g 34, g 35, g 36, g 37, g 38, g 39, g 40, g 41, g 42, g 43, g 44, g 45, g 46, g 47, g 48, g 49, g 50, g 51, g 52, g 53, g 54, g 55, g 56, g 57, g 58, g 59, g 60, g 61, g 62, g 63, g 64, g 65, g 66, g 67, g 68, .int .i64 (tN x : Int), .int .i64 (i : Int), g 71, g 72, g 73, g 74, g 75, g 76, g 77, g 78, g 79, g 80, g 81, g 82, g 83, g 84, g 85, g 86, g 87, g 88, g 89, g 90, g 91, g 92, g 93, g 94, g 95, g 96, g 97, g 98, g 99, g 100, g 101], defers := [] } := ⟨fun k => y.tmps.getD k undef, (act_eta hxs hxd).trans (by simp only [unrollL, Nat.reduceAdd, Nat.zero_add, l1, l2, l3, l4, l7, l10, l11, l69, l70])⟩; clear hxs hxd l1 l2 l3 l4 l7 l10 l11 l69 l70
            obtain ⟨aw3, cw3, rfl⟩ := hO.form
            have hs := hB.size
            have m3 : k.size + 3 < k'.size := by omega
            have m4 : k.size + 4 < k'.size := by omega
            by_cases hlt : i < tN x
            · have hlt' := lt_cast hlt
              obtain ⟨q1, q2, q3⟩ := dec_meas hlt hm
              have w3 := i64_succ (i := i) (by omega)
              have w5 : IntKind.u64.wrap (E0 x + 1) = E0 x + 1 := u64_in (by omega) (by omega)
              have wi : IntKind.i64.wrap ((cN x : Int) + (i : Int)) = (cN x : Int) + (i : Int) := i64_in (by omega) (by omega)
              have wu : IntKind.u32.wrap ((cN x : Int) + (i : Int)) = (cN x : Int) + (i : Int) := u32_in (by omega) (by omega)
              have wu2 : IntKind.u32.wrap ((cN x : Int) + (i : Int) + 1) = (cN x : Int) + (i : Int) + 1 := u32_in (by omega) (by omega)
              simp (maxDischargeDepth := 16) only [z04, z08, z09, z0a, z0b, z0d, z0e, z0p, z0q, z0s, z0t, z0v, z0w, z0x, z0z, z10, z11, z13, z15, z1e, z1l, z1v, z24, z2d, z2x, z3b, z3h, z4e, z4f, z4g, z4h, z4i, z4j, z4k, z4l, z4m, z4n, z4s, z4u, z4v, z50, z51, z5a, z7z, evalC_block, ↓reduceIte, Hp.cell, hasBx52, tIntx3x28, tPartx3, tPartx22, hlt', hB.e, hB.c, ne_f m3, ne_f0 m3, lt_t m3, lt_t0 m3, ne_f m4, ne_f0 m4, lt_t m4, lt_t0 m4, w5, wi, wu, wu2]
              refine ex_kops (Al.ex (run52 hI52 (k := k') (by rw [hB.ro]; omega) _ _ (by omega))) ?_
              rintro _ k2 ⟨hk2, hr2, rfl⟩
              have hB2 := hB.keep hk2 hr2
              have hs2 := hB2.size
              have hO2 : OwnC RE k2 (.slice aw3 (comL x.2.2.2.1 (cN x) ++ ownL (E0 x + 1) (cN x) i).length cw3) b3? (comL x.2.2.2.1 (cN x) ++ ownL (E0 x + 1) (cN x) i) := hO.mono (by have := hk2.size; omega) (fun c hc => by have := hb c hc; have := (show c < k'.size by subst hc; exact hO.lt); exact hk2.get c (by omega))
              simp (maxDischargeDepth := 16) only [z0q, z0s, z0t, z0v, z1i, z1m, z2o, z3b, z4e, z4f, z4g, z4h, z4i, z4j, z4k, z4l, z4p, z4q, z4r, z4z, z50, z53, z7d, z88, Nat.reduceLeDiff, Nat.reduceAdd, tRowx34]
              have hL : (comL x.2.2.2.1 (cN x) ++ ownL (E0 x + 1) (cN x) i).length = cN x + i := by rw [List.length_append, comL_len, ownL_len]
              refine ex_kops (OwnC.append_ex (P := Try.prog) (t := 34) (tx := 34) (e := RE) (x := (E0 x + 1, (cN x : Int) + (i : Int) + 1)) (lit := k2.size) (cs := #[.int .u64 (E0 x + 1), .int .i64 1, .int .u32 ((cN x : Int) + (i : Int) + 1), .slice none 0 0]) tRowx34 (by kernel_rfl) rfl (by decide)
                (hO2.mono (k' := k2.push _) (by simp) (fun c hc => get_push_ne (by have := (show c < k2.size by subst hc; exact hO2.lt); omega))) (fun c hc => by have := hb c hc; simp only [Hp.ro_push]; rw [hB2.ro]; omega) get_push_self ⟨rfl, by constructor <;> simp [IntKind.min, IntKind.max, IntKind.bits, IntKind.signed] <;> omega, by constructor <;> simp [IntKind.min, IntKind.max, IntKind.bits, IntKind.signed] <;> omega⟩ (by simp [flatB]) (by rw [hL]; omega) (by rw [hL]; unfold capOpen; omega)) ?_
              rintro v3 k3 ⟨b3, e2, e3, e4, e5⟩
              simp only [Hp.size_push, Hp.ro_push] at e3 e4 e5
              simp (maxDischargeDepth := 16) only [z08, z0d, z0e, z0h, z0k, z0p, z0q, z0s, z0t, z0v, z0w, z0z, z10, z11, z13, z24, z3b, z4e, z4f, z4g, z4h, z4i, w3]
              have holt : ∀ c, b? = some c → c < k'.size := fun c hc => by rw [hc] at hOo; exact hOo.lt
              have hsk := hk2.size
              refine ih (m - 1) _ _ q1 ⟨i + 1, _, some b3, q2, q3, hB2.next (fun d hd => ?_) (by omega) (by omega), by rw [ownL_succ, ← List.append_assoc]; exact e2, fun b hb' => ?_, hOo.mono (by omega) (fun c hc => ?_), fun b hb' hc => ?_, rfl, rfl, rfl, rfl, rfl, rfl, rfl, rfl, rfl, rfl, rfl⟩
              · rw [e5 d (by omega) (fun h => by have := hb d h; omega), get_push_ne (by omega)]
              · cases hb'
                rcases e3 with ⟨e3, -⟩ | ⟨e3, -⟩
                · exact hb b3 e3
                · omega
              · have := holt c hc
                rw [e5 c (by omega) (fun h => hoo c h hc), get_push_ne (by omega), hk2.get c this]
              · cases hb'
                have := holt b3 hc
                rcases e3 with ⟨e3, -⟩ | ⟨e3, -⟩
                · exact hoo b3 e3 hc
                · omega
            · have hlt' := nlt_cast hlt
              obtain rfl : i = tN x := by omega
              simp (maxDischargeDepth := 16) only [z06, z08, z09, z0a, z0c, z0d, z0e, z0g, z0j, z0m, z0p, z0q, z0s, z0t, z0v, z0z, z11, z13, z1d, z2d, z3b, z4e, z4f, z4g, z4h, z4i, z4j, z4k, z4l, z5b, z7t, ↓reduceIte, hlt']
              have m0 : k.size < k'.size := by omega
              have n13 := fun a => bin_rem (P := Try.prog) (t := 102) (k := .u64) (x := a) (y := 13) (by decide)
              have t13 := (remN_is x.2.2.2.2.1 13 (by decide) (by decide))
              have t13' := (remN_is x.2.2.2.2.2 13 (by decide) (by decide))
              simp only [Int.cast_ofNat_Int] at t13 t13'
              have rA := RE_34 hOo.rp
              have rB := RE_34 hO.rp
              have hbA : ∀ c, b? = some c → c < k'.size := fun c hc => by rw [hc] at hOo; exact hOo.lt
              have hbB : ∀ c, b3? = some c → c < k'.size := fun c hc => by rw [hc] at hO; exact hO.lt
              have voA := fun kept bits => vb_old (s0 := k'.size) (kept := kept) (bits := bits) (vin_mono hbA (R34.rvin rA _ (List.mem_singleton.2 rfl)))
              have voB := fun kept bits => vb_old (s0 := k'.size) (kept := kept) (bits := bits) (vin_mono hbB (R34.rvin rB _ (List.mem_singleton.2 rfl)))
              rw [evalDraw_modes _ _ [(0, 0, 1), (0, 0, 2), (0, 0, 4), (2, 4, 12), (0, 12, 28), (0, 28, 60), (0, 60, 124), (2, 127, 255), (0, 0, 256), (0, 0, 512), (0, 0, 1024), (2, 1024, 3072), (0, 3072, 7168), (0, 7168, 15360), (0, 15360, 31744), (4, 32767, 65535), (4, 65535, 131071), (4, 131071, 262143)] (by kernel_rfl)]
              simp (maxDischargeDepth := 16) only [z0t, z0v, z0w, z0z, z10, z13, z15, z16, z1e, z1l, z1v, z2w, z2x, z3b, z3h, z44, z45, z46, z4e, z4f, z4g, z4h, z4i, z4j, z4k, z4l, z4m, z4n, z4o, z4p, z4q, z4r, z4s, z4t, z4u, z50, z51, z53, z5a, z5f, z5j, z5l, z5u, z5x, z62, z6a, z6c, z6g, z6h, z6j, z6t, z6v, z6x, z70, z71, z7z, Nat.reduceAdd, ↓reduceIte, keepR, Hp.cell, hasBx78, tFieldAx106x4, tIntx3x102, tIntx102x3, tPartx3, hB.box, ne_f m0, ne_f0 m0, lt_t m0, lt_t0 m0, n13, t13.1, t13'.1, ne_f m3, ne_f0 m3, lt_t m3, lt_t0 m3, ne_f m4, ne_f0 m4, lt_t m4, lt_t0 m4, voA]
              refine al_kd2 (run78 (I := I) hI78 (N := N) (p := fun c => b? = some c) (bc := k.size + 3) (be := k.size + 4) (c := cN x) (n := remN x.2.2.2.2.1 13) (E := E0 x) (R34.mono rA (fun _ h => h) (fun _ => rfl) (Fr.of fun b hb => view_nil)) (fun b hb => by rw [view_size]; exact hbA b hb) (by rw [view_ro, view_size]; exact Nat.le_refl _) (by rw [view_nil]; exact hB.c) (by rw [view_nil]; exact hB.e) (by rw [view_size]; exact m3) (by rw [view_size]; exact m4) (by rw [List.length_map, List.length_append, comL_len]; omega) (by omega) (by have := t13.2; omega) (by omega) (by omega)) ?_ (by decide) ?_
              · rintro v k2 hk2 ⟨ds, rfl, hd⟩
                refine vin_agg fun c hc => vin_mono (fun b hb => ?_) (R36.rvin hd c hc)
                rcases hb with hb | hb
                · exact .inl (hbA b hb)
                · rw [view_size] at hb; exact .inr hb
              rintro v1' k1 m1 hk1 ⟨ds, rfl, hd⟩ hn1 hn2 hn3 hn4
              have hs1 := hk1.size
              rw [view_size] at hs1
              have fA : R36.r false (fun b => b? = some b ∨ k'.size ≤ b ∧ b < m1.size) m1 ds (madeA x) := Rp.fresh (R36.mono hd (p' := fun b => b? = some b ∨ k'.size ≤ b ∧ b < m1.size) (fun b hb => by
                rcases hb with hb | hb
                · exact .inl hb
                · rw [view_size] at hb; exact .inr ⟨hb.1, by omega⟩) id (Fr.refl _)) fun h => hn4 h _ (fun b hb => by
                rcases hb with hb | hb
                · have := hbA b hb; exact ⟨by omega, by omega⟩
                · exact ⟨by omega, by omega⟩)
              have hkm : Keeps k' m1 := ⟨by omega, hn3⟩
              have hB1 := hB.keep hkm hn2
              have m0' : k.size < m1.size := by omega
              obtain ⟨w1, w2, rfl, c1, c2, c3, cv1, c4, c5, c6, c7, c8, c9, cv2⟩ := R36_inv fA
              have ow1 : oneC w1 = true := R25.rone cv1 w1 (by simp)
              have ow2 : oneC w2 = true := R34.rone cv2 w2 (by simp)
              have gv : ∀ bits, (m1.view bits (keepS 7 k'.size k1.size [])).get k.size = some (.cells #[.int .i64 x.1, .int .i64 x.2.1, .int .i64 x.2.2.1, v1, .int .i64 x.2.2.2.2.1, .int .i64 x.2.2.2.2.2] true) := fun bits => (view_keepS m0).trans (view_nil.trans hB1.box)
              have m4' : k.size + 4 < m1.size := by omega
              have m3' : k.size + 3 < m1.size := by omega
              simp (maxDischargeDepth := 16) only [z0t, z0v, z0w, z0z, z10, z13, z15, z16, z1e, z1l, z1v, z2w, z2x, z3b, z3h, z44, z45, z46, z4e, z4f, z4g, z4h, z4i, z4j, z4k, z4l, z4m, z4n, z4o, z4p, z4q, z4r, z4s, z4t, z4u, z50, z51, z53, z5a, z5f, z5j, z5l, z5u, z5x, z62, z6a, z6c, z6g, z6h, z6j, z6t, z6x, z7z, z8b, z8d, Nat.reduceAdd, ↓reduceIte, keepR, Hp.cell, hasBx78, tFieldAx106x5, tIntx3x102, tIntx102x3, tPartx3, gv, ne_f m0, ne_f0 m0, lt_t m0, lt_t0 m0, n13, t13'.1, ne_f m3, ne_f0 m3, lt_t m3, lt_t0 m3, ne_f m4, ne_f0 m4, lt_t m4, lt_t0 m4, voB]
              refine al_kd1 (run78 (I := I) hI78 (N := N) (p := fun c => b3? = some c) (bc := k.size + 3) (be := k.size + 4) (c := cN x) (n := remN x.2.2.2.2.2 13) (E := E0 x) (R34.mono rB (fun _ h => h) (fun _ => rfl) (hkm.fr hbB)) (fun b hb => by have := hbB b hb; omega) (by rw [hn2, hB.ro]; omega) hB1.c hB1.e m3' m4' (by rw [List.length_map, List.length_append, comL_len]; omega) (by omega) (by have := t13'.2; omega) (by omega) (by omega)) ?_ (by decide) ?_
              · rintro v k2 hk2 ⟨ds, rfl, hd⟩
                refine vin_agg fun c hc => vin_mono (fun b hb => ?_) (R36.rvin hd c hc)
                rcases hb with hb | hb
                · exact .inl (hbB b hb)
                · exact .inr hb
              rintro v2' k2 hk2 hr2 ⟨es, rfl, he⟩
              have hB2 := hB1.keep hk2 hr2
              have hs2 := hk2.size
              obtain ⟨u1, u2, rfl, d1, d2, d3, dv1, d4, d5, d6, d7, d8, d9, dv2⟩ := R36_inv he
              have ou1 : oneC u1 = true := R25.rone dv1 u1 (by simp)
              have ou2 : oneC u2 = true := R34.rone dv2 u2 (by simp)
              have rr : ∀ j, (k2.ro ≤ k.size + j) = True := fun j => eq_true (by rw [hB2.ro]; omega)
              have n1 : k.size + 1 < k'.size := by omega
              have n2 : k.size + 2 < k'.size := by omega
              have hz1 := hB2.r1
              have hz2 := hB2.r2
              unfold z36 at hz1 hz2
              have vA : ∀ w, vin (fun b => b? = some b ∨ k'.size ≤ b ∧ b < m1.size) w → ∀ bits, bits.testBit 7 = true → vokB (allow k'.size (keepS 15 m1.size k2.size (keepS 7 k'.size k1.size [])) bits) w = true := fun w hw bits hb => vin_p hw fun b hb' => by
                rcases hb' with h | h
                · exact allow_old (hbA b h)
                · exact allow_keepS (allow_own h.1 (by omega) hb)
              have vB : ∀ w, vin (fun b => b3? = some b ∨ m1.size ≤ b ∧ b < k2.size) w → ∀ bits, bits.testBit 15 = true → vokB (allow k'.size (keepS 15 m1.size k2.size (keepS 7 k'.size k1.size [])) bits) w = true := fun w hw bits hb => vin_p hw fun b hb' => by
                rcases hb' with h | h
                · exact allow_old (hbB b h)
                · exact allow_own h.1 (by omega) hb
              simp (maxDischargeDepth := 16) only [z05, z0d, z0e, z0o, z0t, z0u, z0v, z1f, z1w, z1x, z2o, z2x, z2y, z33, z35, z37, z38, z39, z3b, z3d, z3g, z3p, z3v, z3w, z3x, z3y, z3z, z41, z43, z44, z45, z46, z49, z4b, z4d, z4e, z4f, z4g, z4h, z4i, z4p, z4q, z4r, z4z, z52, z53, z5f, z5k, z5t, z66, z72, z8d, Nat.reduceEqDiff, Nat.reduceAdd, Nat.reduceSub, ↓reduceIte, keepR, Hp.row, Hp.wr, tPartx36, tSizex36, hz1, hz2, ne_f n1, ne_f0 n1, lt_t n1, lt_t0 n1, ne_f n2, ne_f0 n2, lt_t n2, lt_t0 n2, rr, ow1, ow2, ou1, ou2]
              have ne12 : ∀ d, k.size + 5 ≤ d → d ≠ k.size + 1 ∧ d ≠ k.size + 2 := fun d hd => ⟨by omega, by omega⟩
              refine Al.done ⟨by simp only [Hp.size_setB]; have := hB2.keeps.size; omega, fun d hd => by rw [get_set_ne (by omega), get_set_ne (by omega)]; exact hB2.keeps.get d hd⟩ (by simp only [Hp.ro_setB]; exact hB2.ro) ⟨_, _, rfl, R36.mono fA (fun d hd => ?_) id (Fr.of fun d hd => ?_), R36.mono he (fun d hd => ?_) id (Fr.of fun d hd => ?_)⟩
              · simp only [Hp.size_setB]
                rcases hd with hd | hd
                · have := hbA d hd; omega
                · omega
              · have h5 : k.size + 5 ≤ d ∧ d < m1.size := by
                  rcases hd with hd | hd
                  · have := hb2 d hd; have := hbA d hd; omega
                  · omega
                rw [get_set_ne (ne12 d h5.1).2, get_set_ne (ne12 d h5.1).1, hk2.get d h5.2]
              · simp only [Hp.size_setB]
                rcases hd with hd | hd
                · have := hbB d hd; omega
                · omega
              · have h5 : k.size + 5 ≤ d := by
                  rcases hd with hd | hd
                  · exact hb d hd
                  · omega
                rw [get_set_ne (ne12 d h5).2, get_set_ne (ne12 d h5).1]
          · omega
          · exact ⟨0, _, _, by omega, by omega, hB, by simpa [ownL] using hOo, hbk5 , hO, (fun b hb' hc => hoo b hc hb'), rfl, rfl, rfl, rfl, rfl, rfl, rfl, rfl, rfl, rfl, rfl⟩
      · omega
      · exact ⟨0, _, a?, by omega, by omega, hB3, by simpa [ownL] using hOa3, (fun b hb' => by have := ha b hb'; omega), hOb, (fun b hb' hc => by have := hdis b hb'; have := hbb b hc; omega), rfl, rfl, rfl, rfl, rfl, rfl, rfl, rfl, rfl, rfl, rfl, rfl⟩
  · omega
  · refine ⟨0, _, none, by omega, by omega, ⟨(by repeat (first | assumption | exact Keeps.refl _ | refine Keeps.push ?_ _ | refine Keeps.set ?_ (by first | omega | (simp only [Hp.size_push, Hp.size_setB]; omega)) _)), by simp only [Hp.ro_setB, Hp.ro_push], by simp only [Hp.size_setB, Hp.size_push]; omega, by simp (maxDischargeDepth := 16) only [z33, z34, z35, z38, z3a, z4a, z4b, Nat.reduceEqDiff, Nat.reduceAdd, ↓reduceIte], by simp (maxDischargeDepth := 16) only [z34, z35, z36, z37, z38, z39, z3a, z4a, z4b, Nat.reduceEqDiff, Nat.reduceAdd, ↓reduceIte, z36], by simp (maxDischargeDepth := 16) only [z34, z35, z36, z37, z38, z39, z3a, z4a, z4b, Nat.reduceEqDiff, Nat.reduceAdd, ↓reduceIte, z36], by simp (maxDischargeDepth := 16) only [z33, z34, z35, z37, z38, z39, z3a, z4a, z4b, Nat.reduceEqDiff, Nat.reduceAdd, ↓reduceIte], by simp (maxDischargeDepth := 16) only [z33, epI]⟩, OwnC.nil, (fun b h => by cases h), rfl, rfl, rfl, rfl, rfl, rfl, rfl, rfl, rfl, rfl, rfl, rfl⟩
end Go.Abs.B1
