/- A sweep of an arena without blocks. -/
import Derived.Test.YtjimckjdkgbojaaGreatDoorSn4
import Derived.Test.YtjimckjdkgbojaaGreatDoorDc3
namespace Go.Abs.D1
open Go.Proofs
set_option maxRecDepth 10000
set_option maxHeartbeats 4000000
set_option linter.all false
section
variable {I : Intr} {N : Nat} {k : Hp} {ab wb m : Nat}
theorem iter_new (h1 : I 205 = none) (n : NewAt k ab wb m) {B l : Nat} {o3 : Bool} (hB : k.get B = some (.cells #[.pointer (some ⟨ab, 0, none⟩)] o3)) (nB : B < k.size) (hN : 20 < N) :
    ∃ v, evalV Tryz.prog I (N + 1) (.fn 205) #[.func (.yield l) #[] #[], .pointer (some ⟨B, 0, none⟩)] k = some (v, k) := by
  obtain ⟨o1, hA⟩ := n.A
  obtain ⟨o2, hW⟩ := n.W
  have nA := n.a
  have nW := n.w
  have b15 : (15 : Int) < ((m + 16 : Nat) : Int) := by omega
  have g15 : (newW m)[15]? = some (.int .u32 16) := rfl
  have w16 : IntKind.i64.wrap 16 = 16 := by decide
  rw [evalV_call (P := Tryz.prog) (intr := I) (f := 205) (m := 43) (rs := #[]) h1 Tryz.func205 rfl rfl rfl]
  simp (maxDischargeDepth := 16) only [z08, z09, z0d, z0e, z0p, z0q, z0s, z0t, z0w, z11, z4g, z4h, z4i, z4p, z4q, z4r, z4s, z4t, z4u, z4w, z4x, z4y, z53, z7n, evalC_block, Nat.reduceAdd, Nat.reduceSub]
  refine loop_rule (fun r : Option (Value × Hp) => ∃ v, r = some (v, k)) (fun m' z h => m' = 0 ∧ h = k ∧ z.tmps.size = 43 ∧ z.defers = [] ∧ z.tmps.getD 0 undef = .func (.yield l) #[] #[] ∧ z.tmps.getD 1 undef = .pointer (some ⟨B, 0, none⟩) ∧ z.tmps.getD 3 undef = .int .i64 16) ?_ _ 0 _ _ (by omega) ⟨rfl, rfl, rfl, rfl, rfl, rfl, rfl⟩
  intro m' n' z h hI' ih
  obtain ⟨-, rfl, hxs, hxd, l0, l1, l3⟩ := hI'
  obtain ⟨g, rfl⟩ : ∃ g : Nat → Value, z = { tmps := #[.func (.yield l) #[] #[], .pointer (some ⟨B, 0, none⟩), g 2, .int .i64 16, g 4, g 5, g 6, g 7, g 8, g 9, g 10, g 11, g 12, g 13, g 14, g 15, g 16, g 17, g 18, g 19, g 20, g 21, g 22, g 23, g 24, g 25, g 26, g 27, g 28, g 29, g 30, g 31, g 32, g 33, g 34, g 35, g 36, g 37, g 38, g 39, g 40, g 41, g 42], defers := [] } := ⟨fun k => z.tmps.getD k undef, (act_eta hxs hxd).trans (by simp only [unrollL, Nat.reduceAdd, Nat.zero_add, l0, l1, l3])⟩; clear hxs hxd l0 l1 l3
  simp (maxDischargeDepth := 16) only [z06, z08, z09, z0a, z0c, z0d, z0e, z0g, z0j, z0m, z0n, z0p, z0q, z0s, z0t, z0v, z0w, z0z, z10, z13, z15, z16, z18, z1c, z1e, z1v, z1z, z21, z2d, z2u, z2w, z2x, z3b, z3e, z4e, z4f, z4g, z4h, z4i, z4m, z4n, z50, z51, z53, z54, z5b, z7n, z7z, Nat.reduceMul, ↓reduceIte, Nat.reduceLT, Int.reduceLT, Int.reduceLE, Int.reduceToNat, Hp.cell, tElemx22, tFieldAx99x0, tIntx85x3, tPartx22, tPartx40, tPartx85, hA, hB, hW, ne_f nA, ne_f0 nA, lt_t nA, lt_t0 nA, ne_f nB, ne_f0 nB, lt_t nB, lt_t0 nB, ne_f nW, ne_f0 nW, lt_t nW, lt_t0 nW, b15, g15, w16]
  exact ⟨_, rfl⟩
theorem run92 (i0 : I 92 = none) (i1 : I 149 = none) (h1 : I 205 = none) (n : NewAt k ab wb m) (hro : k.ro ≤ k.size) (hN : 40 < N) {want : Bool} : Al k (fun _ v => v = .slice none 0 0) (evalV Tryz.prog I (N + 1) (.fn 92) #[.pointer (some ⟨ab, 0, none⟩), .bool want] k) := by
  obtain ⟨M, rfl⟩ : ∃ M, N = M + 1 := ⟨N - 1, by omega⟩
  have c149 := fun k' => run149 (I := I) i1 (N := M) (h := k') (ab := ab)
  rw [evalV_call (P := Tryz.prog) (intr := I) (f := 92) (m := 22) (rs := #[.tmp 4]) i0 Tryz.func92 rfl rfl rfl]
  simp (maxDischargeDepth := 16) only [z04, z08, z09, z0a, z0c, z0d, z0e, z0p, z0q, z0s, z0t, z0v, z0w, z0x, z0z, z10, z11, z13, z1g, z1h, z1l, z2n, z2z, z3a, z3b, z3h, z4a, z4e, z4f, z4g, z4h, z4i, z4j, z4k, z4l, z4p, z4q, z4r, z4s, z4t, z4u, z4v, z4w, z4x, z4y, z4z, z53, z7i, z7m, z7n, evalC_block, Nat.reduceAdd, Nat.reduceSub, ↓reduceIte, hasBx149, tPtrx40, tZerox96, c149]
  refine range_rule3 (Al k _) fun asg' body' tm hb ea eb htm hhb => ?_
  have hs : hb.size = k.size + 3 := by rw [hhb]; simp only [Hp.size_push, Hp.size_setB]
  have hkb : Keeps k hb := by rw [hhb]; exact (by repeat (first | assumption | exact Keeps.refl _ | refine Keeps.push ?_ _ | refine Keeps.set ?_ (by first | omega | (simp only [Hp.size_push, Hp.size_setB]; omega)) _))
  have hrb : hb.ro = k.ro := by rw [hhb]; simp only [Hp.ro_push, Hp.ro_setB]
  have e1 : hb.get (k.size + 1) = some (.cells #[.slice none 0 0] true) := by rw [hhb]; simp (maxDischargeDepth := 16) only [z34, z36, z3a, z4a, Nat.reduceEqDiff, Nat.reduceAdd, ↓reduceIte]
  have e3 : hb.get (k.size + 2) = some (.cells #[.pointer (some ⟨ab, 0, none⟩)] true) := by rw [hhb]; simp (maxDischargeDepth := 16) only [z34, z3a, z4a, Nat.reduceAdd, ↓reduceIte]
  clear hhb
  obtain ⟨k0, hk0⟩ : ∃ k0, k0 = enterH hb tm #[12, 13] asg' body' := ⟨_, rfl⟩
  have k0s : k0.size = k.size + 5 := by rw [hk0]; simp only [enterH, Hp.size_push]; omega
  have k0r : k0.ro = k.ro := by rw [hk0]; simp only [enterH, Hp.ro_push]; exact hrb
  have k0g : ∀ c, c < k.size + 3 → k0.get c = hb.get c := fun c hc => by rw [hk0]; unfold enterH; rw [get_push_ne (by simp only [Hp.size_push]; omega), get_push_ne (by omega)]
  have k0d : k0.get (k.size + 3) = some (.defd false) := by rw [hk0]; unfold enterH; rw [get_push_ne (by simp only [Hp.size_push]; omega), ← hs, get_push_self]
  have k0l : k0.get (k.size + 4) = some (.loop .ready none tm #[12, 13] asg' body' (k.size + 3)) := by rw [hk0]; unfold enterH; rw [Hp.get_push, if_pos (by simp only [Hp.size_push]; omega), hs]
  have k0k : Keeps k k0 := ⟨by omega, fun c hc => by rw [k0g c (by omega), hkb.get c hc]⟩
  rw [← hk0]
  obtain ⟨v, er⟩ := iter_new (N := M) (l := k.size + 4) (B := k.size + 2) h1 (n.mono k0k) ((k0g _ (by omega)).trans e3) (by omega) (by omega)
  have er' : evalV Tryz.prog I (M + 1) (.fn 205) #[.func (.yield (hb.size + 1)) #[] #[], .pointer (some ⟨k.size + 2, 0, none⟩)] k0 = some (v, k0) := by rw [hs]; exact er
  have k0l' : k0.get (hb.size + 1) = some (.loop .ready none tm #[12, 13] asg' body' (k.size + 3)) := by rw [hs]; exact k0l
  refine ⟨205, #[.func (.yield (hb.size + 1)) #[] #[], .pointer (some ⟨k.size + 2, 0, none⟩)], v, k0, .normal, _, by simp (maxDischargeDepth := 16) only [z0v, z3b, z3h, z4e, z4f, z4s, z4t, z4u, ↓reduceIte, hasBx205], er', leave_normal k0l' (by decide) (by omega), ?_⟩
  have f8 := (k0g (k.size + 1) (by omega)).trans e1
  have hrr : ∀ j, (k0.ro ≤ k.size + j) = True := fun j => by simp; omega
  have n1 : k.size + 1 < k0.size := by omega
  have n4 : k.size + 3 < k0.size := by omega
  simp (maxDischargeDepth := 16) only [z05, z08, z09, z0d, z0e, z0h, z0o, z0p, z0q, z0s, z0t, z0v, z0z, z11, z1e, z1v, z2x, z35, z36, z3a, z3b, z3c, z3f, z4d, z4e, z4f, z4g, z4h, z4i, z4m, z4n, z4z, z7n, Nat.reduceEqDiff, Nat.reduceAdd, ↓reduceIte, Hp.cell, tPartx96, hs, f8, k0d, hrr, ne_f n1, ne_f0 n1, lt_t n1, lt_t0 n1, ne_f n4, ne_f0 n4, lt_t n4, lt_t0 n4, finR_mark]
  exact Al.done ((k0k.set (by omega) _).set (by omega) _) (by simp only [Hp.ro_setB]; exact k0r) rfl
theorem run49 (i : I 49 = none) (i0 : I 92 = none) (i1 : I 149 = none) (h1 : I 205 = none) (n : NewAt k ab wb m) (hro : k.ro ≤ k.size) (hN : 41 < N) : Al k (fun _ v => v = .slice none 0 0) (evalV Tryz.prog I (N + 1) (.fn 49) #[.pointer (some ⟨ab, 0, none⟩)] k) := by
  obtain ⟨N, rfl⟩ : ∃ n, N = n + 1 := ⟨N - 1, by omega⟩
  have x := run92 (N := N) (want := true) i0 i1 h1 n hro (by omega)
  rw [evalV_call (P := Tryz.prog) (intr := I) (f := 49) (m := 5) (rs := #[.tmp 2]) i Tryz.func49 rfl rfl rfl]
  simp (maxDischargeDepth := 16) only [z08, z09, z0d, z0e, z0p, z0q, z0s, z0t, z0v, z0w, z0x, z10, z11, z1l, z3b, z3h, z4e, z4f, z4g, z4h, z4i, z4j, z4k, z4l, z4p, z4q, z4r, z4s, z4t, z4u, z4v, z4w, z4x, z4y, z53, z7n, Nat.reduceSub, ↓reduceIte, hasBx92]
  refine al_kops x fun v k' q1 q2 q3 => ?_
  subst q3
  simp (maxDischargeDepth := 16) only [z05, z0d, z0e, z0o, z0p, z0q, z0s, z0t, z0v, z11, z3b, z3c, z3f, z4e, z4f, z4g, z4h, z4i, z4z]
  exact Al.done q1 q2 rfl
end
end Go.Abs.D1
