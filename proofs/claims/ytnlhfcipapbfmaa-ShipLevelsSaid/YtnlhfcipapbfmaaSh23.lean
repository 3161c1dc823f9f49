/- Ships: what an offer makes of a view. -/
import Derived.Test.YtnlhfcipapbfmaaSh22
namespace Go.Abs.B1
open Go.Proofs
set_option maxRecDepth 10000
set_option maxHeartbeats 4000000
set_option linter.all false
noncomputable def isNew (x : T36) (y : T47) (i : Nat) : Bool := !decide (prevI y + i + 1 ≤ x.2.1.1.1) && !hasY x y i
def zC : T72 := (false, 0, [], 0)
noncomputable def foundD (x : T36) (y : T47) : Option Nat → T72
  | none => (true, 0, [], prevI y + (entsY y).length)
  | some i => (true, prevI y + i + 1, (entsY y).drop i, prevI y + (entsY y).length)
noncomputable def accD (x : T36) (y : T47) : T72 :=
  if f55 x < prevI y then (false, 0, [], f55 x)
  else if (f57 x (prevI y)).2.2 = true ∧ ¬ (f57 x (prevI y)).2.1 = y.2.2.2.2.1.2 then (false, 0, [], max (prevI y) 1 - 1)
  else foundD x y ((List.range (entsY y).length).find? (isNew x y))
noncomputable def f26e (x : T36) (y : T47) : Int := if f15 x = 0 then (if f29 y = true then 0 else 2) else f15 x
noncomputable def f26c (x : T36) (y : T47) : T72 := if f15 x = 0 then (if f29 y = true then accD x y else zC) else zC
theorem range_rule2 {P : Program} {R : Type} {call : CallF} {draw : Array Oper → Act → Hp → (Act → Hp → Option R) → Option R} {lf : Nat} {K : Exit → Act → Hp → Option R} {f : Operand} {a : Act} {ps : Array Tmp} {asg body : Code} {h : Hp} (Q : Option R → Prop)
    (H : ∀ asg' body' tm hb, asg' = asg → body' = body → tm = a.tmps → hb = h → ∃ g args v h2 e h3, aTarget P (a.eval f) #[.func (.yield (hb.size + 1)) #[] #[]] = some (.fn g, args) ∧ call (.fn g) args (enterH hb tm ps asg' body') = some (v, h2) ∧ leaveL (hb.size + 1) h2 = some (e, h3) ∧
    Q (K e { a with defers := { target := .collected hb.size, args := #[] } :: a.defers } h3)) : Q (evalC P call draw none lf (.rangeFunc f ps asg body) a h K) :=
  range_rule Q fun asg' body' e1 e2 => H asg' body' _ _ e1 e2 rfl rfl
theorem zip_two {a b : Tmp} {v w : Value} {tm : Array Value} : ((#[a, b] : Array Tmp).zip #[v, w]).foldl (fun tmps x => tmps.setIfInBounds x.1 x.2) tm = (tm.setIfInBounds a v).setIfInBounds b w := by simp [Array.zip]
theorem hide {r : Option (Value × Hp)} {S : Bool → Hp → Prop} (H : ∀ S', S' = S → ∃ b h', r = some (.bool b, h') ∧ S' b h') : ∃ b h', r = some (.bool b, h') ∧ S b h' := H S rfl
theorem alq_kd2 {P : Program} {call : CallF} {k : Hp} {S : Hp → Value → Prop} {r : Option (Value × Hp)} {ops : Array Oper} {bits bits' s0 j : Nat} {l : List (Oper × Nat × Nat × Nat)} {kept : List (Nat × Nat × Nat)} {Ka : Act → Hp → Option (Value × Hp)} {d : Option Tmp} {a : Act} (Q : Option (Value × Hp) → Prop) (x : Al (k.view bits kept) S r)
    (hv : ∀ v k', Keeps (k.view bits kept) k' → S k' v → vin (fun b => b < s0 ∨ k.size ≤ b ∧ b < k'.size) v) (hb : bits'.testBit j = true)
    (H : ∀ v k' m, Keeps (k.view bits kept) k' → S k' v → m.size = k'.size → m.ro = k.ro → (∀ b, b < k.size → m.get b = k.get b) → (flatB v = false → ∀ p : Nat → Prop, (∀ b, p b → b < k'.size ∧ (b < s0 ∨ k.size ≤ b)) → Fr p k' m) →
      Q (evalDM P call ops s0 l (j + 1) (a.put d v) m (keepS j k.size k'.size kept) false Ka)) :
    Q (KD2 P call ops bits bits' s0 j l kept Ka d a k r) := by
  obtain ⟨v, k', rfl, h1, h2, h3⟩ := x
  exact KD2_fresh Q h1 (hv v k' h1 h3) hb fun m m1 m2 m3 m4 => H v k' m h1 h3 m1 m2 m3 m4
theorem hB94 : hasB Try.prog 94 = true := by kernel_rfl
theorem run26 {I : Intr} (hI : I 26 = none) (hI66 : I 66 = none) (hI94 : I 94 = none) (hI58 : I 58 = none) (hI77 : I 77 = none) (hI89 : I 89 = none) (hI15 : I 15 = some g15) (hI55 : I 55 = some g55) (hI57 : I 57 = some g57) (hI68 : I 68 = some g68) {N : Nat} {k : Hp} {cs ds : List Value} {x : T36} {y : T47} {p : Nat → Prop}
    (r : R36.r false p k cs x) (s : R47.r false p k ds y) (hp : ∀ b, p b → b < k.size) (hro : k.ro ≤ k.size) (hS : Small x) (hl2 : (entsY y).length ≤ 1000) (hu2 : ∀ e ∈ entsY y, e.2.2.2.length ≤ 1000) (hN : 2000 < N) :
    Al k (fun k' v => ∃ es, v = .tuple #[.agg es.toArray, .int .i64 (f26e x y)] ∧ R72.r true (fr k k') k' es (f26c x y)) (evalV Try.prog I N (.fn 26) #[.agg cs.toArray, .agg ds.toArray] k) := by
  obtain ⟨N, rfl⟩ : ∃ n, N = n + 1 := ⟨N - 1, by omega⟩
  have rr := R36.mono r hp id (Fr.refl _)
  have c15 := call_rdk (P := Try.prog) (A := A36) (I := I) (f := 15) (spec := fun x => .int .i64 (f15 x.1)) hI15 N (show A36.r (· < k.size) k [_] (x, ()) from ⟨_, _, rfl, rr, rfl⟩) (by omega)
  have c55 := call_rdk (P := Try.prog) (A := A36) (I := I) (f := 55) (spec := fun x => .int .u64 (f55 x.1)) hI55 N (show A36.r (· < k.size) k [_] (x, ()) from ⟨_, _, rfl, rr, rfl⟩) (by omega)
  have c57 := fun i hi => call_rdk (P := Try.prog) (A := A36i) (I := I) (f := 57) (spec := fun x => .tuple #[vAt (f57 x.1 x.2.1).1 (f57 x.1 x.2.1).2.1, .bool (f57 x.1 x.2.1).2.2]) hI57 N (show A36i.r (· < k.size) k [_, _] (x, i, ()) from ⟨_, _, rfl, rr, _, _, rfl, ⟨rfl, hi⟩, rfl⟩) (by omega)
  have r00 := r
  have s00 := s
  obtain ⟨v1, v2, rfl, b1, b2, b3, hv1, b4, b5, b6, b7, b8, b9, hv2⟩ := R36_inv r
  obtain ⟨w1, w2, w3, rfl, -, -, -, -, e1, e2, hw, -, -, -, d1, d2, hw2, d3, d4, d5, d6, d7, d8, -, hw3, -⟩ := R47_inv s
  have o1 := R25.rone hv1 _ (List.mem_singleton.2 rfl)
  have o2 := R34.rone hv2 _ (List.mem_singleton.2 rfl)
  have o4 := R25.rone hw2 _ (List.mem_singleton.2 rfl)
  have o5 := R43.rone hw3 _ (List.mem_singleton.2 rfl)
  obtain ⟨oa, ca, rfl, -, hla⟩ := slice_form hw
  rw [evalV_call (P := Try.prog) (intr := I) (f := 26) (m := 97) (rs := #[.cell 4 72, .tmp 5]) hI Try.func26 rfl rfl rfl]
  have hbx := u64_bounds b2
  have hbp : 0 ≤ prevI y ∧ prevI y < 18446744073709551616 := u64_bounds e1
  by_cases q0 : f15 x = 0
  case neg =>
    simp (maxDischargeDepth := 16) only [z00, z02, z05, z08, z09, z0a, z0b, z0d, z0e, z0f, z0o, z0p, z0q, z0s, z0t, z0u, z0v, z0w, z0x, z0z, z10, z11, z13, z1b, z1e, z1f, z1g, z1h, z1l, z1v, z1w, z1x, z2c, z2o, z2x, z2y, z2z, z33, z34, z38, z39, z3a, z3b, z3d, z3f, z3g, z3h, z3p, z3q, z3s, z3v, z3w, z3x, z3y, z3z, z41, z43, z44, z45, z46, z49, z4a, z4c, z4e, z4f, z4g, z4h, z4i, z4j, z4k, z4l, z4p, z4q, z4r, z4s, z4t, z4u, z4v, z4w, z4x, z4y, z4z, z50, z51, z52, z53, z5b, z5d, z5f, z72, z7v, z7w, z80, z81, Nat.reduceEqDiff, Nat.reduceAdd, Nat.reduceSub, ↓reduceIte, Hp.row, Hp.wr, hasBx15, tBuildOkx72, tPartx36, tPartx72, tSizex72, tZerox72, ro_le hro, hro, c15, q0, f26e, f26c]
    exact Al.done (by repeat (first | assumption | exact Keeps.refl _ | refine Keeps.push ?_ _ | refine Keeps.set ?_ (by first | omega | (simp only [Hp.size_push, Hp.size_setB]; omega)) _)) rfl ⟨_, rfl, R72_mk (x := zC) u0 nilR u0⟩
  have h55 := last_eq q0 hbx.1 (by have := hS.ents; omega)
  have hx62 := right_62 q0
  by_cases q1 : y.1 = 1
  case neg =>
    have h29 : f29 y = false := by unfold f29; rw [decide_eq_false q1]; rfl
    simp (maxDischargeDepth := 16) only [z00, z02, z04, z05, z08, z09, z0a, z0b, z0c, z0d, z0e, z0f, z0o, z0p, z0q, z0r, z0s, z0t, z0u, z0v, z0w, z0x, z0z, z10, z11, z12, z13, z16, z1b, z1e, z1f, z1g, z1h, z1l, z1v, z1w, z1x, z1y, z2c, z2o, z2w, z2x, z2y, z2z, z33, z34, z36, z38, z39, z3a, z3b, z3d, z3f, z3g, z3h, z3k, z3p, z3q, z3s, z3v, z3w, z3x, z3y, z3z, z41, z43, z44, z45, z46, z49, z4a, z4c, z4e, z4f, z4g, z4h, z4i, z4j, z4k, z4l, z4m, z4n, z4o, z4p, z4q, z4r, z4s, z4t, z4u, z4v, z4w, z4x, z4y, z4z, z50, z51, z52, z53, z54, z59, z5a, z5b, z5c, z5d, z5f, z72, z7v, z7w, z80, z81, Nat.reduceEqDiff, Nat.reduceAdd, Nat.reduceSub, ↓reduceIte, yielded, Hp.cell, Hp.row, Hp.wr, hasBx15, tBuildOkx72, tFieldAx47x0, tPartx3, tPartx36, tPartx72, tSizex72, tZerox72, ro_le hro, hro, c15, eq_true q0, q1, f26e, f26c, h29]
    exact Al.done (by repeat (first | assumption | exact Keeps.refl _ | refine Keeps.push ?_ _ | refine Keeps.set ?_ (by first | omega | (simp only [Hp.size_push, Hp.size_setB]; omega)) _)) rfl ⟨_, rfl, R72_mk (x := zC) u0 nilR u0⟩
  by_cases q2 : 8 < ((entsY y).length : Int)
  · have h29 : f29 y = false := by unfold f29; rw [decide_eq_true q1, decide_eq_false (by show ¬ ((entsY y).length : Int) ≤ 8; omega)]; rfl
    simp (maxDischargeDepth := 16) only [z00, z02, z04, z05, z08, z09, z0a, z0b, z0c, z0d, z0e, z0f, z0o, z0p, z0q, z0r, z0s, z0t, z0u, z0v, z0w, z0x, z0z, z10, z11, z12, z13, z16, z1b, z1e, z1f, z1g, z1h, z1l, z1p, z1r, z1v, z1w, z1x, z1y, z2c, z2f, z2o, z2w, z2x, z2y, z2z, z33, z34, z36, z38, z39, z3a, z3b, z3d, z3f, z3g, z3h, z3k, z3p, z3q, z3s, z3v, z3w, z3x, z3y, z3z, z41, z43, z44, z45, z46, z49, z4a, z4c, z4e, z4f, z4g, z4h, z4i, z4j, z4k, z4l, z4m, z4n, z4o, z4p, z4q, z4r, z4s, z4t, z4u, z4v, z4w, z4x, z4y, z4z, z50, z51, z52, z53, z54, z59, z5a, z5c, z5e, z5f, z72, z7v, z7w, z80, z81, Nat.reduceEqDiff, Nat.reduceAdd, Nat.reduceSub, ↓reduceIte, yielded, Hp.cell, Hp.row, Hp.wr, hasBx15, tBuildOkx72, tFieldAx47x0, tFieldAx47x5, tLenx34, tPartx3, tPartx34, tPartx36, tPartx72, tSizex72, tZerox72, ro_le hro, hro, c15, eq_true q0, eq_true q1, q2, f26e, f26c, h29]
    exact Al.done (by repeat (first | assumption | exact Keeps.refl _ | refine Keeps.push ?_ _ | refine Keeps.set ?_ (by first | omega | (simp only [Hp.size_push, Hp.size_setB]; omega)) _)) rfl ⟨_, rfl, R72_mk (x := zC) u0 nilR u0⟩
  by_cases q3 : 4611686018427387904 < prevI y
  · have h29 : f29 y = false := by unfold f29; rw [decide_eq_true q1, decide_eq_true (by show ((entsY y).length : Int) ≤ 8; omega), decide_eq_false (by show ¬ prevI y ≤ 4611686018427387904; omega)]; rfl
    simp (maxDischargeDepth := 16) only [z00, z02, z04, z05, z08, z09, z0a, z0b, z0c, z0d, z0e, z0f, z0o, z0p, z0q, z0r, z0s, z0t, z0u, z0v, z0w, z0x, z0z, z10, z11, z12, z13, z16, z1b, z1e, z1f, z1g, z1h, z1l, z1p, z1r, z1v, z1w, z1x, z1y, z2c, z2f, z2o, z2w, z2x, z2y, z2z, z33, z34, z36, z38, z39, z3a, z3b, z3d, z3f, z3g, z3h, z3p, z3q, z3s, z3v, z3w, z3x, z3y, z3z, z41, z43, z44, z45, z46, z49, z4a, z4c, z4e, z4f, z4g, z4h, z4i, z4j, z4k, z4l, z4m, z4n, z4o, z4p, z4q, z4r, z4s, z4t, z4u, z4v, z4w, z4x, z4y, z4z, z50, z51, z52, z53, z54, z59, z5a, z5b, z5c, z5e, z5f, z72, z7v, z7w, z80, z81, Nat.reduceEqDiff, Nat.reduceAdd, Nat.reduceSub, ↓reduceIte, yielded, Hp.cell, Hp.row, Hp.wr, hasBx15, tBuildOkx72, tFieldAx24x0, tFieldAx47x0, tFieldAx47x4, tFieldAx47x5, tLenx34, tPartx3, tPartx22, tPartx34, tPartx36, tPartx72, tSizex72, tZerox72, ro_le hro, hro, c15, eq_true q0, eq_true q1, q2, q3, f26e, f26c, h29]
    exact Al.done (by repeat (first | assumption | exact Keeps.refl _ | refine Keeps.push ?_ _ | refine Keeps.set ?_ (by first | omega | (simp only [Hp.size_push, Hp.size_setB]; omega)) _)) rfl ⟨_, rfl, R72_mk (x := zC) u0 nilR u0⟩
  have h29 : f29 y = true := by unfold f29; rw [decide_eq_true q1, decide_eq_true (by show ((entsY y).length : Int) ≤ 8; omega), decide_eq_true (by show prevI y ≤ 4611686018427387904; omega)]; rfl
  have hE : f26e x y = 0 := by unfold f26e; rw [if_pos q0, if_pos h29]
  have hC : f26c x y = accD x y := by unfold f26c; rw [if_pos q0, if_pos h29]
  rw [hE, hC]
  simp (maxDischargeDepth := 16) only [z00, z04, z08, z09, z0a, z0c, z0d, z0e, z0p, z0q, z0r, z0s, z0t, z0v, z0w, z0x, z0z, z10, z11, z12, z13, z16, z1e, z1g, z1h, z1l, z1p, z1r, z1v, z1y, z2c, z2f, z2o, z2w, z2x, z2z, z34, z36, z38, z39, z3a, z3b, z3h, z3x, z3y, z3z, z41, z43, z46, z4a, z4e, z4f, z4g, z4h, z4i, z4j, z4k, z4l, z4m, z4n, z4o, z4p, z4q, z4r, z4s, z4t, z4u, z4v, z4w, z4x, z4y, z4z, z50, z51, z52, z53, z54, z59, z5a, z5b, z5c, z5e, z7t, z7v, z7w, Nat.reduceEqDiff, Nat.reduceAdd, Nat.reduceSub, ↓reduceIte, yielded, Hp.cell, Hp.row, hasBx15, tFieldAx24x0, tFieldAx47x0, tFieldAx47x4, tFieldAx47x5, tLenx34, tPartx3, tPartx22, tPartx34, tPartx36, tZerox72, ro_le hro, c15, eq_true q0, eq_true q1, q2, q3]
  rw [evalDraw_modes _ _ [(0, 0, 1), (0, 1, 3), (2, 3, 7), (2, 0, 8), (2, 8, 24), (0, 31, 63)] (by kernel_rfl)]
  have vo1 := fun kept bits => vb_old (s0 := k.size + 3) (kept := kept) (bits := bits) (vin_mono (fun b hb => by have := hp b hb; omega) (R25.rvin hv1 _ (List.mem_singleton.2 rfl)))
  have vo2 := fun kept bits => vb_old (s0 := k.size + 3) (kept := kept) (bits := bits) (vin_mono (fun b hb => by have := hp b hb; omega) (R34.rvin hv2 _ (List.mem_singleton.2 rfl)))
  by_cases q4 : f55 x < prevI y
  · have hd : accD x y = (false, 0, [], f55 x) := by unfold accD; rw [if_pos q4]
    rw [hd]
    simp (maxDischargeDepth := 16) only [z02, z05, z08, z09, z0a, z0b, z0d, z0e, z0f, z0o, z0p, z0q, z0s, z0t, z0u, z0v, z0w, z0x, z0z, z11, z13, z16, z1b, z1e, z1f, z1l, z1v, z1w, z1x, z2f, z2m, z2o, z2w, z2x, z2y, z33, z34, z36, z38, z39, z3a, z3b, z3d, z3f, z3g, z3h, z3p, z3q, z3s, z3v, z3w, z3x, z3y, z3z, z41, z43, z44, z45, z46, z49, z4a, z4c, z4e, z4f, z4g, z4h, z4i, z4j, z4k, z4l, z4m, z4n, z4o, z4p, z4q, z4r, z4s, z4u, z4v, z4z, z50, z51, z52, z53, z54, z5a, z5f, z5j, z5l, z5t, z5u, z5x, z62, z63, z6a, z6d, z6g, z6h, z6j, z6t, z6v, z6x, z70, z71, z72, z79, z7v, z7w, z7y, z80, z81, z82, z83, Nat.reduceEqDiff, Nat.reduceAdd, Nat.reduceSub, ↓reduceIte, Nat.reduceLT, Int.reduceLT, keepR, Hp.cell, Hp.row, Hp.wr, hasBx55, tBuildFx72x3, tBuildOkx72, tFieldAx24x0, tFieldAx47x4, tPartx22, tPartx36, tPartx72, tSizex72, tZerox72, ro_le hro, hro, c55, q4, vo1, vo2]
    exact Al.done (by repeat (first | assumption | exact Keeps.refl _ | refine Keeps.push ?_ _ | refine Keeps.set ?_ (by first | omega | (simp only [Hp.size_push, Hp.size_setB]; omega)) _)) rfl ⟨_, rfl, R72_mk (x := (false, 0, [], f55 x)) u0 nilR (by constructor <;> simp [IntKind.min, IntKind.max, IntKind.bits, IntKind.signed] <;> have := hS.ents <;> omega)⟩
  replace c57 := c57 _ e1
  have hd : accD x y = if (f57 x (prevI y)).2.2 = true ∧ ¬ (f57 x (prevI y)).2.1 = y.2.2.2.2.1.2 then (false, 0, [], max (prevI y) 1 - 1) else foundD x y ((List.range (entsY y).length).find? (isNew x y)) := by unfold accD; rw [if_neg q4]
  rw [hd]
  by_cases q5 : (f57 x (prevI y)).2.2 = true ∧ ¬ (f57 x (prevI y)).2.1 = y.2.2.2.2.1.2
  · rw [if_pos q5]
    obtain ⟨q6, q7⟩ := q5
    have wm : IntKind.u64.wrap (max (prevI y) 1 - 1) = max (prevI y) 1 - 1 := by rw [u64_in] <;> omega
    simp (maxDischargeDepth := 16) only [z02, z04, z05, z08, z09, z0a, z0b, z0c, z0d, z0e, z0f, z0o, z0p, z0q, z0r, z0s, z0t, z0u, z0v, z0w, z0x, z0z, z10, z11, z12, z13, z16, z1a, z1b, z1e, z1f, z1g, z1l, z1t, z1v, z1w, z1x, z1y, z25, z2c, z2f, z2j, z2m, z2o, z2t, z2w, z2x, z2y, z2z, z33, z34, z35, z36, z38, z39, z3a, z3b, z3d, z3f, z3g, z3h, z3p, z3q, z3s, z3v, z3w, z3x, z3y, z3z, z41, z43, z44, z45, z46, z49, z4a, z4c, z4d, z4e, z4f, z4g, z4h, z4i, z4j, z4k, z4l, z4m, z4n, z4o, z4p, z4q, z4r, z4s, z4u, z4v, z4z, z50, z51, z52, z53, z54, z5a, z5b, z5d, z5e, z5f, z5j, z5l, z5t, z5u, z5x, z62, z63, z6a, z6d, z6g, z6h, z6j, z6t, z6v, z6x, z70, z71, z72, z79, z7v, z7w, z7y, z80, z81, z82, z83, Nat.reduceEqDiff, Nat.reduceAdd, Nat.reduceSub, ↓reduceIte, Nat.reduceLT, Int.reduceLT, yielded, keepR, Hp.cell, Hp.row, Hp.wr, hasBx55, hasBx57, tBuildFx72x3, tBuildOkx72, tFieldAx24x0, tFieldAx24x1, tFieldAx47x4, tPartx22, tPartx36, tPartx72, tSizex24, tSizex72, tZerox24, tZerox72, ro_le hro, hro, c55, q4, vo1, vo2, c57, q6, q7, wm]
    exact Al.done (by repeat (first | assumption | exact Keeps.refl _ | refine Keeps.push ?_ _ | refine Keeps.set ?_ (by first | omega | (simp only [Hp.size_push, Hp.size_setB]; omega)) _)) rfl ⟨_, rfl, R72_mk (x := (false, 0, [], max (prevI y) 1 - 1)) u0 nilR (by constructor <;> simp [IntKind.min, IntKind.max, IntKind.bits, IntKind.signed] <;> omega)⟩
  rw [if_neg q5]
  obtain ⟨M, rfl⟩ : ∃ M, N = M + 2 := ⟨N - 2, by omega⟩
  have e66 := fun (k' : Hp) (hk : Keeps k k') => run66 (I := I) hI66 (N := M + 1) (k := k') (p := p) (R36.mono r00 (fun _ h => h) id (hk.fr hp)) (R47.mono s00 (fun _ h => h) id (hk.fr hp))
  have wl : IntKind.u64.wrap ((entsY y).length : Int) = ((entsY y).length : Int) := u64_in (by omega) (by omega)
  have wq : IntKind.u64.wrap (prevI y + ((entsY y).length : Int)) = prevI y + ((entsY y).length : Int) := u64_in (by omega) (by omega)
  have hq5 : (f57 x (prevI y)).2.2 = false ∨ ((f57 x (prevI y)).2.2 = true ∧ (f57 x (prevI y)).2.1 = y.2.2.2.2.1.2) := by
    cases h : (f57 x (prevI y)).2.2
    · exact .inl rfl
    · refine .inr ⟨rfl, Classical.byContradiction fun h' => q5 ⟨h, h'⟩⟩
  rcases hq5 with q6 | ⟨q6, q7⟩
  case' inl => simp (maxDischargeDepth := 16) only [z04, z07, z08, z09, z0a, z0c, z0d, z0e, z0p, z0q, z0r, z0s, z0t, z0u, z0v, z0w, z0x, z0z, z10, z11, z12, z13, z15, z16, z1a, z1b, z1e, z1f, z1g, z1l, z1p, z1r, z1v, z1w, z1x, z1y, z24, z2f, z2m, z2n, z2o, z2t, z2w, z2x, z2y, z2z, z34, z35, z36, z38, z39, z3a, z3b, z3h, z3l, z3p, z3q, z3s, z3v, z3w, z3x, z3y, z3z, z41, z43, z44, z45, z46, z49, z4a, z4b, z4c, z4d, z4e, z4f, z4g, z4h, z4i, z4j, z4k, z4l, z4m, z4n, z4o, z4p, z4q, z4r, z4s, z4u, z4v, z4z, z50, z51, z52, z53, z54, z59, z5a, z5b, z5f, z5j, z5l, z5t, z5u, z5x, z62, z63, z6a, z6d, z6g, z6h, z6j, z6t, z6v, z6x, z70, z71, z72, z79, z7b, z7v, z7w, z7x, z7y, z7z, z80, z81, z82, z83, evalC_block, Nat.reduceEqDiff, Nat.reduceLeDiff, Nat.reduceAdd, Nat.reduceSub, ↓reduceIte, Nat.reduceLT, Int.reduceLT, yielded, keepR, Hp.cell, Hp.row, Hp.wr, hasBx55, hasBx57, hasBx66, tBuildFx72x0, tBuildFx72x3, tBuildOkx72, tFieldAx24x0, tFieldAx47x4, tFieldAx47x5, tIntx3x22, tLenx34, tPartx22, tPartx34, tPartx36, tPartx47, tSizex24, tSizex72, tZerox24, tZerox72, ro_le hro, hro, c55, q4, vo1, vo2, c57, q6, wl, wq, e66]
  case' inr => simp (maxDischargeDepth := 16) only [z04, z07, z08, z09, z0a, z0c, z0d, z0e, z0p, z0q, z0r, z0s, z0t, z0u, z0v, z0w, z0x, z0z, z10, z11, z12, z13, z15, z16, z1a, z1b, z1e, z1f, z1g, z1l, z1p, z1r, z1v, z1w, z1x, z1y, z24, z2c, z2f, z2m, z2n, z2o, z2t, z2w, z2x, z2y, z2z, z33, z34, z35, z36, z38, z39, z3a, z3b, z3h, z3p, z3q, z3s, z3v, z3w, z3x, z3y, z3z, z41, z43, z44, z45, z46, z49, z4a, z4b, z4c, z4d, z4e, z4f, z4g, z4h, z4i, z4j, z4k, z4l, z4m, z4n, z4o, z4p, z4q, z4r, z4s, z4u, z4v, z4z, z50, z51, z52, z53, z54, z5a, z5b, z5c, z5e, z5f, z5j, z5l, z5t, z5u, z5x, z62, z63, z6a, z6d, z6g, z6h, z6j, z6t, z6v, z6x, z70, z71, z72, z79, z7b, z7v, z7w, z7x, z7y, z7z, z80, z81, z82, z83, evalC_block, Nat.reduceEqDiff, Nat.reduceLeDiff, Nat.reduceAdd, Nat.reduceSub, ↓reduceIte, Nat.reduceLT, Int.reduceLT, yielded, keepR, Hp.cell, Hp.row, Hp.wr, hasBx55, hasBx57, hasBx66, tBuildFx72x0, tBuildFx72x3, tBuildOkx72, tFieldAx24x0, tFieldAx24x1, tFieldAx47x4, tFieldAx47x5, tIntx3x22, tLenx34, tPartx22, tPartx34, tPartx36, tPartx47, tSizex24, tSizex72, tZerox24, tZerox72, ro_le hro, hro, c55, q4, vo1, vo2, c57, q6, q7, wl, wq, e66]
  all_goals
    refine range_rule2 (Al k _) fun asg' body' tm hb ea eb htm hhb => ?_
    have hs : hb.size = k.size + 7 := by rw [hhb]; simp only [Hp.size_push, Hp.size_setB]
    have hkb : Keeps k hb := by rw [hhb]; exact (by repeat (first | assumption | exact Keeps.refl _ | refine Keeps.push ?_ _ | refine Keeps.set ?_ (by first | omega | (simp only [Hp.size_push, Hp.size_setB]; omega)) _))
    have hrb : hb.ro = k.ro := by rw [hhb]; simp only [Hp.ro_push, Hp.ro_setB]
    have gB : hb.get (k.size + 5) = some (.cells #[.int .u64 x.1, .int .u64 x.2.1.1.1, .int .u64 x.2.1.1.2, v1, .int .u32 x.2.1.2.2.1.1, .int .u64 x.2.1.2.2.1.2, .int .u32 x.2.1.2.2.2.1.1, .int .u64 x.2.1.2.2.2.1.2, .int .u32 x.2.1.2.2.2.2.1, .int .u64 x.2.1.2.2.2.2.2, v2] true) := by rw [hhb]; simp (maxDischargeDepth := 16) only [z34, z36, z3a, z4a, z4b, Nat.reduceEqDiff, Nat.reduceAdd, ↓reduceIte]
    have gC : ∃ ds, ds = #[.int .i64 y.1, .int .i64 y.2.1, .int .i64 y.2.2.1, .int .u64 y.2.2.2.1, .int .u64 y.2.2.2.2.1.1, .int .u64 y.2.2.2.2.1.2, .slice oa (entsY y).length ca, .int .u64 y.2.2.2.2.2.2.1, .bool y.2.2.2.2.2.2.2.1, .int .u64 y.2.2.2.2.2.2.2.2.1, .int .u64 y.2.2.2.2.2.2.2.2.2.1, .int .u64 y.2.2.2.2.2.2.2.2.2.2.1.1.1, .int .u64 y.2.2.2.2.2.2.2.2.2.2.1.1.2, w2, .int .u32 y.2.2.2.2.2.2.2.2.2.2.1.2.2.1.1, .int .u64 y.2.2.2.2.2.2.2.2.2.2.1.2.2.1.2, .int .u32 y.2.2.2.2.2.2.2.2.2.2.1.2.2.2.1.1, .int .u64 y.2.2.2.2.2.2.2.2.2.2.1.2.2.2.1.2, .int .u32 y.2.2.2.2.2.2.2.2.2.2.1.2.2.2.2.1, .int .u64 y.2.2.2.2.2.2.2.2.2.2.1.2.2.2.2.2, .int .u32 y.2.2.2.2.2.2.2.2.2.2.2.1, w3, .int .i64 y.2.2.2.2.2.2.2.2.2.2.2.2.2] ∧ hb.get (k.size + 6) = some (.cells ds true) ∧ hb.get (k.size + 1) = some (.cells ds true) := ⟨_, rfl, by rw [hhb]; simp (maxDischargeDepth := 16) only [z34, z3a, z4a, z4b, Nat.reduceAdd, ↓reduceIte], by rw [hhb]; simp (maxDischargeDepth := 16) only [z34, z35, z36, z3a, z4a, z4b, Nat.reduceEqDiff, Nat.reduceAdd, ↓reduceIte]⟩
    obtain ⟨ds, hds, gC, g3⟩ := gC
    have g2 : hb.get (k.size + 2) = some (.cells #[.bool false, .int .u64 0, .slice none 0 0, .int .u64 0] true) := by rw [hhb]; simp (maxDischargeDepth := 16) only [z34, z35, z36, z3a, z4a, z4b, Nat.reduceEqDiff, Nat.reduceAdd, ↓reduceIte]
    have g9 : hb.get (k.size + 4) = some (.cells #[.bool true, .int .u64 0, .slice none 0 0, .int .u64 (prevI y + (entsY y).length)] true) := by rw [hhb]; simp (maxDischargeDepth := 16) only [z33, z34, z36, z3a, z4a, z4b, Nat.reduceEqDiff, Nat.reduceAdd, ↓reduceIte]
    have r94 := run94 (I := I) hI94 hI55 hI68 (N := M + 1) (k := hb) (B := k.size + 5) (C := k.size + 6) (l := hb.size + 1) (x := x) (y := y) (p := p) (R36.mono r00 (fun _ h => h) id (hkb.fr hp)) (R47.mono s00 (fun _ h => h) id (hkb.fr hp)) (fun b hb' => by have := hp b hb'; omega) (by omega) gB (by rw [gC, hds]) (by omega) (by omega) q0 (by have := hS.ents; omega) hl2 (by omega) (.inr trivial) (by omega)
      (fun i h => (Keeps hb h ∧ h.ro = hb.ro) ∧ k.size + 9 ≤ h.size ∧ h.get (k.size + 7) = some (.defd false) ∧ h.get (k.size + 8) = some (.loop .ready none tm #[78, 79] asg' body' (k.size + 7)) ∧ (∀ j, j < i → isNew x y j = false))
      (fun h' => ∃ (st : LoopState) (pd : Option Code) (es : List Value) (out : Option Nat), Keeps k h' ∧ h'.ro = k.ro ∧ k.size + 9 ≤ h'.size ∧ h'.get (k.size + 7) = some (.defd false) ∧ h'.get (k.size + 8) = some (.loop st pd tm #[78, 79] asg' body' (k.size + 7)) ∧ st ≠ .busy ∧ (pd = none ∨ pd = some (.exit 0)) ∧ out = (List.range (entsY y).length).find? (isNew x y) ∧
        h'.get (k.size + 2) = some (.cells #[.bool false, .int .u64 0, .slice none 0 0, .int .u64 0] true) ∧ h'.get (k.size + 4) = some (.cells es.toArray true) ∧ R72.r true (fun b => k.size + 9 ≤ b ∧ b < h'.size) h' es (foundD x y out))
      (fun i h hi => hi.1)
      (by
        rintro i h h' ⟨⟨a1, a2⟩, a3, a4, a5, a6⟩ hk' hr'
        have := hk'.size
        exact ⟨⟨a1.trans hk', by omega⟩, by omega, by rw [hk'.get _ (by omega)]; exact a4, by rw [hk'.get _ (by omega)]; exact a5, a6⟩)
      (by
        rintro i h ⟨a1, a3, a4, a5, a6⟩ hi hle
        refine ⟨a1, a3, a4, a5, fun j hj => ?_⟩
        rcases Nat.lt_succ_iff_lt_or_eq.1 hj with hj | rfl
        · exact a6 j hj
        · unfold isNew; rw [decide_eq_true hle]; rfl)
      (by
        rintro i h ⟨⟨a1, a2⟩, a3, a4, a5, a6⟩ hi hle
        refine hide fun S hS => ?_
        have gl : h.get (hb.size + 1) = some (.loop .ready none tm #[78, 79] asg' body' (k.size + 7)) := by rw [hs]; exact a5
        have rol : h.ro ≤ hb.size + 1 := by omega
        rw [evalV_yield gl rfl ea eb, zip_two, htm]
        simp (maxDischargeDepth := 16) only [z08, z09, z0d, z0e, z0p, z0q, z0s, z0t, z0v, z11, z3b, z4e, z4f, z4g, z4h, z4i]
        rw [Kasg_normal gl rol]
        cases hh : hasY x y i
        case true =>
          simp (maxDischargeDepth := 16) only [z04, z08, z09, z0a, z0c, z0d, z0e, z0h, z0p, z0q, z0s, z0t, z0v, z0z, z10, z14, z2h, z3b, z4e, z4f, z4g, z4h, z4i, z5c, evalC_block]
          rw [Kbody_normal get_set_self rol]
          refine ⟨true, _, rfl, ?_⟩
          rw [hS]
          simp only [if_true]
          refine ⟨⟨⟨by have := a1.size; simp only [Hp.size_setB]; omega, fun b hb => by rw [get_set_ne (by omega), get_set_ne (by omega)]; exact a1.get b hb⟩, by simp only [Hp.ro_setB]; exact a2⟩, by simp only [Hp.size_setB]; omega, by rw [get_set_ne (by omega), get_set_ne (by omega)]; exact a4, by rw [show k.size + 8 = hb.size + 1 by omega, get_set_self], fun j hj => ?_⟩
          rcases Nat.lt_succ_iff_lt_or_eq.1 hj with hj | rfl
          · exact a6 j hj
          · unfold isNew; rw [hh]; simp
        case false =>
          have g3' : h.get (k.size + 1) = _ := (a1.get _ (by omega)).trans g3
          have g9' : h.get (k.size + 4) = _ := (a1.get _ (by omega)).trans g9
          have n1 : k.size + 1 < h.size := by omega
          have n4 : k.size + 4 < h.size := by omega
          have rj : ∀ j, (h.ro ≤ k.size + j) = True := fun j => by simp; omega
          simp (maxDischargeDepth := 16) only [z08, z09, z0a, z0b, z0d, z0e, z0p, z0q, z0s, z0t, z0v, z0z, z10, z14, z2h, z3a, z3b, z4e, z4f, z4g, z4h, z4i, z5d, z7t, evalC_block, Nat.reduceAdd, hs]
          rw [evalDraw_modes _ _ [(0, 0, 1), (0, 1, 3), (2, 3, 7), (0, 0, 8), (0, 8, 24), (0, 31, 63), (0, 63, 127), (0, 0, 128), (2, 128, 384), (0, 0, 512), (2, 896, 1920), (2, 1920, 3968), (0, 127, 4223), (4, 8191, 16383), (0, 16383, 32767), (4, 32767, 65535)] (by kernel_rfl)]
          simp (maxDischargeDepth := 16) only [z0t, z0v, z0w, z0z, z10, z13, z15, z16, z1e, z1k, z1v, z24, z2w, z2x, z35, z36, z3b, z46, z4b, z4e, z4f, z4g, z4h, z4i, z4m, z4n, z4o, z4z, z50, z51, z53, z54, z5a, z5j, z5l, z5u, z5x, z62, z6a, z6h, z6j, z6t, z6v, z6x, z70, z71, z7z, z87, Nat.reduceEqDiff, Nat.reduceAdd, ↓reduceIte, keepR, Hp.cell, tFieldAx24x0, tFieldAx47x4, tFieldAx47x5, tIntx3x22, tPartx22, tPartx34, g3', ne_f n1, ne_f0 n1, lt_t n1, lt_t0 n1, ne_f n4, ne_f0 n4, lt_t n4, lt_t0 n4, hds]
          have vo0 := fun kept bits => vb_old (s0 := h.size) (kept := kept) (bits := bits) (vin_mono (fun b hb => by have := hp b hb; omega) (R34.rvin hw _ (List.mem_singleton.2 rfl)))
          have kvw : ∀ bits, Fr p k ((h.setB (k.size + 8) (some (.loop .busy none tm #[78, 79] asg' body' (k.size + 7)))).view bits []) := fun bits => Fr.of fun b hb => by have := hp b hb; rw [view_nil, get_set_ne (by omega), a1.get b (by omega), hkb.get b this]
          obtain ⟨hc1, hc2⟩ := cut_rp (P := Try.prog) (t := 34) (e := R85) (lov := some (.int .i64 (i : Int))) (hiv := none) (l := i) (hh := (entsY y).length) (h := (h.setB (k.size + 8) (some (.loop .busy none tm #[78, 79] asg' body' (k.size + 7)))).view 896 []) ((Rp.slice R85).mono hw (fun _ h => h) id (kvw _)) tElemx34 (by decide) ⟨_, rfl⟩ rfl (by omega) (Nat.le_refl _) (.inr hi)
          rw [show R85.len = 4 from rfl] at hc1 hc2
          rw [List.take_length] at hc2
          have vo4 := fun kept bits => vb_old (s0 := h.size) (kept := kept) (bits := bits) (vin_mono (fun b hb => by have := hp b hb; omega) ((Rp.slice R85).rvin hc2 _ (List.mem_singleton.2 rfl)))
          simp (maxDischargeDepth := 16) only [z0t, z0v, z0x, z1l, z3b, z3h, z46, z4b, z4e, z4f, z4g, z4h, z4i, z4j, z4k, z4l, z4s, z4u, z4v, z5l, z5x, z6t, z6x, Nat.reduceAdd, ↓reduceIte, keepR, hasBx58, vo0, hc1, vo4]
          refine alq_kd2 (fun r => ∃ b h', r = some (Value.bool b, h') ∧ S b h') (run58 hI58 hI77 hI89 (p := p) ((Rp.slice R85).mono hc2 (fun _ h => h) id (Fr.of fun b hb => by simp only [view_nil])) (fun b hb => by rw [view_size]; simp only [Hp.size_setB]; have := hp b hb; omega) (by rw [view_ro, view_size]; exact Nat.le_refl _) (by simp only [List.length_drop]; omega) (by simp only [List.length_drop]; omega) (fun e he => hu2 e (List.mem_of_mem_drop he))) ?_ (by decide) ?_
          · intro v k' hk' hv
            exact vin_mono (fun b hb => .inr (by have h := hb.1; rw [view_size] at h; exact ⟨h, hb.2⟩)) (R34.rvin hv v (by simp))
          rintro v k4 m4 hk4 hv hn1 hn2 hn3 hn4
          obtain ⟨o4, c4, rfl, -⟩ := slice_form hv
          have hs4 := hk4.size
          rw [view_size] at hs4
          simp only [Hp.size_setB] at hs4
          have f4 := Rp.fresh1 hv fun h => hn4 h _ (fun b hb => ⟨hb.2, .inr (by have h := hb.1; rw [view_size] at h; exact h)⟩)
          have g9m : m4.get (k.size + 4) = _ := (hn3 _ (by simp only [Hp.size_setB]; omega)).trans ((get_set_ne (by omega)).trans g9')
          have q3 : (m4.size ≤ k.size + 4) = False := by simp; omega
          have p3 : ∀ j, (m4.ro ≤ k.size + j) = True := fun j => by rw [hn2]; simp only [Hp.ro_setB]; simp; omega
          have al6 : ∀ bits, decide (bits / 2 ^ 11 % 2 = 1) = true → vokB (allow h.size (keepS 11 h.size k4.size []) bits) (.slice o4 (List.drop i (entsY y)).length c4) = true := fun bits hb => vin_p (R34.rvin hv _ (List.mem_singleton.2 rfl)) fun b hb' => allow_own (by have h := hb'.1; rw [view_size] at h; exact h) hb'.2 (by rw [tb]; exact hb)
          have hib : i < 1000 := by omega
          have w0 : IntKind.u64.wrap (i : Int) = (i : Int) := u64_in (by omega) (by omega)
          have w1' : IntKind.u64.wrap (prevI y + (i : Int)) = prevI y + i := u64_in (by omega) (by omega)
          have w2' : IntKind.u64.wrap (prevI y + (i : Int) + 1) = prevI y + i + 1 := u64_in (by omega) (by omega)
          simp (maxDischargeDepth := 16) only [z06, z0d, z0e, z0j, z0t, z0u, z0v, z0z, z16, z1f, z1w, z1x, z2m, z2q, z2w, z2y, z33, z3b, z3p, z3s, z3v, z3w, z44, z45, z46, z49, z4b, z4d, z4e, z4f, z4g, z4h, z4i, z4p, z4q, z4r, z50, z51, z53, z5a, z5f, z5j, z5k, z5t, z5u, z66, z6a, z6h, z72, z8b, z8d, Nat.reduceEqDiff, Nat.reduceLeDiff, Nat.reduceAdd, ↓reduceIte, keepR, Hp.wr, tFieldAx72x1, tFieldAx72x2, tSizex22, tSizex34, g9m, n4, p3, w0, w1', w2']
          have gLm : m4.get (k.size + 8) = some (.loop .busy none tm #[78, 79] asg' body' (k.size + 7)) := (hn3 _ (by simp only [Hp.size_setB]; omega)).trans get_set_self
          have hn1' : h.size ≤ m4.size := by omega
          have rom : m4.ro = k.ro := by rw [hn2]; simp only [Hp.ro_setB]; omega
          rw [Kbody_exit (by rw [get_set_ne (by omega), get_set_ne (by omega)]; exact gLm) (by simp only [Hp.ro_setB]; omega)]
          refine ⟨false, _, rfl, ?_⟩
          rw [hS]
          simp only [Bool.false_eq_true, if_false]
          refine ⟨.done, some (.exit 0), [.bool true, .int .u64 (prevI y + i + 1), .slice o4 (List.drop i (entsY y)).length c4, .int .u64 (prevI y + (entsY y).length)], some i, ⟨by simp only [Hp.size_setB]; omega, fun b hb => ?_⟩, by simp only [Hp.ro_setB]; exact rom, by simp only [Hp.size_setB]; omega, ?_, get_set_self, by decide, .inr rfl, ?_, ?_, ?_, ?_⟩
          · rw [get_set_ne (by omega), get_set_ne (by omega), get_set_ne (by omega), hn3 b (by simp only [Hp.size_setB]; omega), get_set_ne (by omega), a1.get b (by omega), hkb.get b hb]
          · rw [get_set_ne (by omega), get_set_ne (by omega), get_set_ne (by omega), hn3 _ (by simp only [Hp.size_setB]; omega), get_set_ne (by omega)]
            exact a4
          · symm
            exact List.find?_range_eq_some.2 ⟨by unfold isNew; rw [decide_eq_false hle, hh]; rfl, by simpa using hi, fun j hj => by rw [a6 j hj]; rfl⟩
          · rw [get_set_ne (by omega), get_set_ne (by omega), get_set_ne (by omega), hn3 _ (by simp only [Hp.size_setB]; omega), get_set_ne (by omega), a1.get _ (by omega)]
            exact g2
          · rw [get_set_ne (by omega), get_set_self]
          · exact R72_mk (x := foundD x y (some i)) (by unfold foundD; constructor <;> simp [IntKind.min, IntKind.max, IntKind.bits, IntKind.signed] <;> omega) (R34.mono f4 (fun b hb => ⟨by have h := hb.1; rw [view_size] at h; simp only [Hp.size_setB] at h; omega, by simp only [Hp.size_setB]; have := hb.2; omega⟩) id (Fr.of fun b hb => by have h := hb.1; rw [view_size] at h; simp only [Hp.size_setB] at h; rw [get_set_ne (by omega), get_set_ne (by omega), get_set_ne (by omega)])) (by unfold foundD; constructor <;> simp [IntKind.min, IntKind.max, IntKind.bits, IntKind.signed] <;> omega))
      (by
        rintro h ⟨⟨a1, a2⟩, a3, a4, a5, a6⟩
        refine ⟨.ready, none, _, none, hkb.trans a1, by omega, a3, a4, a5, by decide, .inl rfl, ?_, by rw [a1.get _ (by omega)]; exact g2, by rw [a1.get _ (by omega)]; exact g9, ?_⟩
        · symm
          rw [List.find?_eq_none]
          intro j hj
          rw [a6 j (by simpa using hj)]
          decide
        · exact R72_mk (x := foundD x y none) u0 nilR (by unfold foundD; constructor <;> simp [IntKind.min, IntKind.max, IntKind.bits, IntKind.signed] <;> omega))
      (h0 := enterH hb tm #[78, 79] asg' body')
      (by
        unfold enterH
        refine ⟨⟨(by repeat (first | assumption | exact Keeps.refl _ | refine Keeps.push ?_ _ | refine Keeps.set ?_ (by first | omega | (simp only [Hp.size_push, Hp.size_setB]; omega)) _)), by simp only [Hp.ro_push]⟩, by simp only [Hp.size_push]; omega, ?_, ?_, fun j hj => by omega⟩
        · rw [get_push_ne (by simp only [Hp.size_push]; omega), ← hs, get_push_self]
        · rw [show k.size + 8 = (hb.push (some (.defd false))).size by simp only [Hp.size_push]; omega, get_push_self, hs])
    obtain ⟨v, h2, er, st, pd, es, out, f1, f2, f3, f4, f5, f6, f7, f8, f9, f10, f11⟩ := r94
    rw [← f8]
    have ro8 : h2.ro ≤ hb.size + 1 := by omega
    have f5' : h2.get (hb.size + 1) = some (.loop st pd tm #[78, 79] asg' body' (k.size + 7)) := by rw [hs]; exact f5
    obtain ⟨w1', ees, m1, m2, m3⟩ := R72_inv f11
    rcases f7 with rfl | rfl
    · refine ⟨94, #[.func (.yield (hb.size + 1)) #[] #[], .pointer (some ⟨k.size + 6, 0, none⟩), .pointer (some ⟨k.size + 5, 0, none⟩)], v, h2, .normal, _, by simp (maxDischargeDepth := 16) only [z0v, z3b, z3h, z4e, z4f, z4s, z4t, z4u, ↓reduceIte, hB94], er, leave_normal f5' f6 ro8, ?_⟩
      have hrr : ∀ j, (h2.ro ≤ k.size + j) = True := fun j => by simp; omega
      subst ees
      have n4 : k.size + 4 < h2.size := by omega
      have n2 : k.size + 2 < h2.size := by omega
      have n7 : k.size + 7 < h2.size := by omega
      have ow1' : oneC w1' = true := R34.rone m2 _ (List.mem_singleton.2 rfl)
      simp (maxDischargeDepth := 16) only [z02, z05, z08, z09, z0d, z0e, z0h, z0o, z0p, z0q, z0s, z0t, z0u, z0v, z0w, z0z, z11, z1e, z1f, z1v, z1w, z1x, z2o, z2x, z2y, z33, z35, z36, z3a, z3b, z3d, z3f, z3g, z3p, z3q, z3v, z3w, z3x, z3y, z3z, z41, z43, z44, z45, z46, z49, z4d, z4e, z4f, z4g, z4h, z4i, z4p, z4q, z4r, z4z, z52, z53, z5f, z72, Nat.reduceEqDiff, Nat.reduceAdd, Nat.reduceSub, ↓reduceIte, Hp.row, Hp.wr, tPartx72, tSizex72, hs, f10, f9, f4, hrr, ne_f n4, ne_f0 n4, lt_t n4, lt_t0 n4, ne_f n2, ne_f0 n2, lt_t n2, lt_t0 n2, ne_f n7, ne_f0 n7, lt_t n7, lt_t0 n7, ow1', finR_mark]
      have hfr : Fr (fun b => k.size + 9 ≤ b ∧ b < h2.size) h2 (((h2.setB (k.size + 8) (some (.loop .exhausted none tm #[78, 79] asg' body' (k.size + 7)))).setB (k.size + 2) (some (.cells #[.bool (foundD x y out).1, .int .u64 (foundD x y out).2.1, w1', .int .u64 (foundD x y out).2.2.2] true))).setB (k.size + 7) (some (.defd true))) := Fr.of fun b hb => by rw [get_set_ne (by omega), get_set_ne (by omega), get_set_ne (by omega)]
      refine Al.done ?_ (by simp only [Hp.ro_setB]; exact f2) ⟨_, rfl, R72_mk m1 (R34.mono m2 (fun b hb => ⟨by omega, by simp only [Hp.size_setB]; exact hb.2⟩) id hfr) m3⟩
      exact ((f1.set (by omega) _).set (by omega) _).set (by omega) _
    · refine ⟨94, #[.func (.yield (hb.size + 1)) #[] #[], .pointer (some ⟨k.size + 6, 0, none⟩), .pointer (some ⟨k.size + 5, 0, none⟩)], v, h2, .exit 0, _, by simp (maxDischargeDepth := 16) only [z0v, z3b, z3h, z4e, z4f, z4s, z4t, z4u, ↓reduceIte, hB94], er, leave_exit f5' f6 ro8, ?_⟩
      have hrr : ∀ j, (h2.ro ≤ k.size + j) = True := fun j => by simp; omega
      subst ees
      have n4 : k.size + 4 < h2.size := by omega
      have n2 : k.size + 2 < h2.size := by omega
      have n7 : k.size + 7 < h2.size := by omega
      have ow1' : oneC w1' = true := R34.rone m2 _ (List.mem_singleton.2 rfl)
      simp (maxDischargeDepth := 16) only [z02, z05, z08, z09, z0d, z0e, z0j, z0o, z0p, z0q, z0s, z0t, z0u, z0v, z0w, z0z, z11, z1e, z1f, z1v, z1w, z1x, z2o, z2x, z2y, z33, z35, z36, z3a, z3b, z3d, z3f, z3g, z3p, z3q, z3v, z3w, z3x, z3y, z3z, z41, z43, z44, z45, z46, z49, z4d, z4e, z4f, z4g, z4h, z4i, z4p, z4q, z4r, z4z, z52, z53, z5f, z72, Nat.reduceEqDiff, Nat.reduceAdd, Nat.reduceSub, ↓reduceIte, Hp.row, Hp.wr, tPartx72, tSizex72, hs, f10, f9, f4, hrr, ne_f n4, ne_f0 n4, lt_t n4, lt_t0 n4, ne_f n2, ne_f0 n2, lt_t n2, lt_t0 n2, ne_f n7, ne_f0 n7, lt_t n7, lt_t0 n7, ow1', finR_mark]
      have hfr : Fr (fun b => k.size + 9 ≤ b ∧ b < h2.size) h2 (((h2.setB (k.size + 8) (some (.loop .exhausted (some (.exit 0)) tm #[78, 79] asg' body' (k.size + 7)))).setB (k.size + 2) (some (.cells #[.bool (foundD x y out).1, .int .u64 (foundD x y out).2.1, w1', .int .u64 (foundD x y out).2.2.2] true))).setB (k.size + 7) (some (.defd true))) := Fr.of fun b hb => by rw [get_set_ne (by omega), get_set_ne (by omega), get_set_ne (by omega)]
      refine Al.done ?_ (by simp only [Hp.ro_setB]; exact f2) ⟨_, rfl, R72_mk m1 (R34.mono m2 (fun b hb => ⟨by omega, by simp only [Hp.size_setB]; exact hb.2⟩) id hfr) m3⟩
      exact ((f1.set (by omega) _).set (by omega) _).set (by omega) _
end Go.Abs.B1
