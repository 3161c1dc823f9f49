/- Ships: levels: one entry, a clone of one's own entries; matches; is a base to be taken. -/
import Derived.Test.YtnlhfcipapbfmaaSl0
namespace Go.Abs.B1
open Go.Proofs
set_option maxRecDepth 10000
set_option maxHeartbeats 4000000
set_option linter.all false
/-- Entries without updates, of client 1. -/
def RE : Rp (Int × Int) where
  len := 4
  r _ _ _ cs x := cs = [.int .u64 x.1, .int .i64 1, .int .u32 x.2, .slice none 0 0] ∧ (IntKind.u64.min ≤ x.1 ∧ x.1 ≤ IntKind.u64.max) ∧ (IntKind.u32.min ≤ x.2 ∧ x.2 ≤ IntKind.u32.max)
  rlen h := by rw [h.1]; rfl
  uniq {o p o' p' h cs x y} h h' := by
    obtain ⟨rfl, -⟩ := h
    obtain ⟨h', -⟩ := h'
    simp only [List.cons.injEq, Value.int.injEq, true_and, and_true] at h'
    exact Prod.ext h'.1 h'.2
  mono h _ _ _ := h
  rvin h := by obtain ⟨rfl, _⟩ := h; simp
  rone h := by obtain ⟨rfl, _⟩ := h; simp [oneC]
  rflat h _ := h
theorem flatE_RE : FlatE RE := fun h v hv => by
  obtain ⟨rfl, _⟩ := h
  simp only [List.mem_cons, List.not_mem_nil, or_false] at hv
  rcases hv with rfl | rfl | rfl | rfl <;> simp [flatB]
abbrev ent (x : Int × Int) : T85 := (x.1, 1, x.2, [])
theorem RE_85 {o o' : Bool} {p p' : Nat → Prop} {h : Hp} {cs : List Value} {x : Int × Int} (r : RE.r o p h cs x) : R85.r o' p' h cs (ent x) := by
  obtain ⟨rfl, h1, h2⟩ := r
  exact R85_mk (x := ent x) h1 i1 h2 nilR
theorem RE_rows {o : Bool} {p : Nat → Prop} {h : Hp} : ∀ {cs : List Value} {xs : List (Int × Int)}, rows RE o p h cs xs → rows R85 o p h cs (xs.map ent)
  | _, [], h => h
  | _, x :: xs, ⟨a, b, e, h1, h2⟩ => ⟨a, b, e, RE_85 h1, RE_rows h2⟩
theorem RE_34 {o : Bool} {p : Nat → Prop} {h : Hp} {v : Value} {xs : List (Int × Int)} (r : (Rp.slice RE).r o p h [v] xs) : R34.r o p h [v] (xs.map ent) := by
  obtain ⟨a, c, e, h1, h2, h3⟩ := r
  refine ⟨a, c, by rw [List.length_map]; exact e, by rw [List.length_map]; exact h1, by rw [List.length_map]; exact h2, ?_⟩
  rcases h3 with ⟨h3, h4, h5⟩ | ⟨b, off, cells, ow, g1, g2, g3, g4, g5, g6, g7⟩
  · exact .inl ⟨by rw [h3]; rfl, h4, h5⟩
  · refine .inr ⟨b, off, cells, ow, g1, g2, g3, g4, g5, by rw [List.length_map]; exact g6, ?_⟩
    have e4 : RE.len = R85.len := rfl
    rw [List.length_map]
    exact RE_rows g7
theorem run52 {I : Intr} (hI : I 52 = none) {N : Nat} {k : Hp} (hro : k.ro ≤ k.size) (e q : Int) (hN : 0 < N) : Al k (fun _ w => w = .agg #[.int .u64 e, .int .i64 1, .int .u32 q, .slice none 0 0]) (evalV Try.prog I N (.fn 52) #[.int .u64 e, .int .u32 q] k) := by
  obtain ⟨N, rfl⟩ : ∃ n, N = n + 1 := ⟨N - 1, by omega⟩
  have p0 : (k.ro ≤ k.size) = True := eq_true hro
  rw [evalV_call (P := Try.prog) (intr := I) (f := 52) (m := 8) (rs := #[.cell 4 85]) hI Try.func52 rfl rfl rfl]
  simp (maxDischargeDepth := 16) only [z05, z08, z09, z0d, z0e, z0o, z0p, z0q, z0s, z0t, z0u, z0v, z0w, z0z, z10, z1b, z1f, z1g, z1w, z1x, z2m, z2o, z2x, z2y, z2z, z33, z34, z3b, z3c, z3g, z3p, z3s, z3v, z3w, z3x, z3y, z3z, z41, z43, z44, z45, z46, z49, z4c, z4e, z4f, z4g, z4h, z4i, z4j, z4k, z4l, z4p, z4q, z4r, z4s, z4t, z4u, z4w, z4x, z4y, z4z, z50, z51, z53, z5f, z72, z80, z81, z82, z83, Nat.reduceLeDiff, Nat.reduceAdd, Nat.reduceSub, ↓reduceIte, Hp.row, Hp.wr, tBuildFx85x0, tBuildFx85x1, tBuildFx85x2, tBuildOkx85, tPartx85, tSizex85, tZerox85, p0]
  exact Al.done (by repeat (first | assumption | exact Keeps.refl _ | refine Keeps.push ?_ _ | refine Keeps.set ?_ (by first | omega | (simp only [Hp.size_push, Hp.size_setB]; omega)) _)) (by simp only [Hp.ro_setB, Hp.ro_push]) rfl
theorem run77c {I : Intr} (hI : I 77 = none) {N : Nat} (hN : 0 < N) {k : Hp} {v : Value} {xs : List (Int × Int)} {b? : Option Nat} (r : OwnC RE k v b? xs) (hro : k.ro ≤ k.size) (hl : xs.length ≤ 1000) :
    Al k (fun k' w => ∃ b2?, OwnC RE k' w b2? xs ∧ ∀ b, b2? = some b → k.size ≤ b) (evalV Try.prog I N (.fn 77) #[v] k) := by
  obtain ⟨N, rfl⟩ : ∃ n, N = n + 1 := ⟨N - 1, by omega⟩
  have r0 := r.rp
  have hlt : ∀ b, b? = some b → b < k.size := fun b hb => by subst hb; exact r.lt
  obtain ⟨a, c, rfl, -, hc⟩ := slice_form r0
  rw [evalV_call (P := Try.prog) (intr := I) (f := 77) (m := 8) (rs := #[.tmp 2]) hI Try.func77 rfl rfl rfl]
  cases a with
  | none =>
    obtain ⟨rfl, -⟩ := slice_nil_inv r0
    simp (maxDischargeDepth := 16) only [z05, z08, z09, z0a, z0b, z0d, z0e, z0f, z0o, z0p, z0q, z0s, z0t, z0v, z0w, z0z, z10, z11, z13, z3b, z3c, z3f, z4e, z4f, z4g, z4h, z4i, z4p, z4q, z4r, z4s, z4t, z4u, z4w, z4x, z4y, z4z, z53, z7k, z7n, Nat.reduceSub, tSlix34]
    exact Al.done (Keeps.refl _) rfl ⟨none, OwnC.nil, by simp⟩
  | some a =>
    simp (maxDischargeDepth := 16) only [z04, z08, z09, z0a, z0c, z0d, z0e, z0p, z0q, z0s, z0t, z0v, z0w, z0z, z10, z11, z13, z1i, z1m, z3b, z4e, z4f, z4g, z4h, z4i, z4j, z4k, z4l, z4p, z4q, z4r, z4s, z4t, z4u, z4w, z4x, z4y, z50, z53, z7k, z7m, z86, Nat.reduceSub, tRowx34, tSlix34]
    refine al_kops (copy_c (e := RE) (o := true) (b := k.size) (q := fun c => b? = some c) flatE_RE tRowx34 (by kernel_rfl) rfl (by decide) ((Rp.slice RE).mono r0 (fun _ h => h) id (Fr.of fun b hb => get_push_ne (by have := hlt b hb; omega))) (by first | omega | (simp only [Hp.size_push, Hp.size_setB, Hp.ro_push, Hp.ro_setB]; omega)) (by simp (maxDischargeDepth := 16) only [z34, ↓reduceIte]) (by first | omega | (simp only [Hp.size_push, Hp.size_setB, Hp.ro_push, Hp.ro_setB]; omega)) (fun c hc => by have := hlt c hc; simp only [Hp.size_push]; omega) (fun h => by have := hlt _ h; omega) (by omega) (by unfold capOpen; omega)) ?_
    rintro w k' hk hr ⟨b', hb', hlt, ho⟩
    simp (maxDischargeDepth := 16) only [z05, z0d, z0e, z0o, z0p, z0q, z0s, z0t, z0v, z11, z3b, z3c, z3f, z4e, z4f, z4g, z4h, z4i, z4z]
    exact Al.done (Keeps.trans (by repeat (first | assumption | exact Keeps.refl _ | refine Keeps.push ?_ _ | refine Keeps.set ?_ (by first | omega | (simp only [Hp.size_push, Hp.size_setB]; omega)) _)) hk) hr ⟨some b', ho, fun b h => by cases h; rcases hb' with rfl | rfl <;> simp⟩
def f23 (m l : Int) (y : T47) : Int := min (if y.1 = 2 then (if y.2.2.2.2.2.2.2.1 = true then max m y.2.2.2.2.2.2.2.2.1 else y.2.2.2.2.2.2.2.2.1) else m) l
abbrev AM := Ar.one (Rp.int .u64) (Ar.one (Rp.int .u64) (Ar.agg R47 Ar.nil))
noncomputable def g23 := gRd AM fun x => .int .u64 (f23 x.1 x.2.1 x.2.2.1)
theorem con23 : Con Try.prog (CKb Try.prog) 23 g23 := by
  refine Con.rd base ok0 _ (fun a => by simp [flatB]) ?_
  rintro h _ ⟨m, l, y, ⟨⟩⟩ hro ⟨v, _, rfl, ⟨e, hm⟩, w, _, rfl, ⟨e', hl⟩, cs, _, rfl, r, rfl⟩
  simp only [List.cons.injEq, and_true] at e e'
  subst e e'
  dsimp only at r ⊢
  obtain ⟨v1, v2, v3, rfl, -⟩ := R47_inv r
  refine ⟨1, ?_⟩
  show ∃ h', evalV Try.prog I0 (0 + 1) (.fn 23) _ h = _ ∧ _
  rw [evalV_call (P := Try.prog) (intr := I0) (f := 23) (m := 23) (rs := #[.tmp 6]) rfl Try.func23 rfl rfl rfl]
  by_cases q1 : y.1 = 2
  · cases q2 : y.2.2.2.2.2.2.2.1 <;> simp (maxDischargeDepth := 16) only [z05, z08, z09, z0a, z0b, z0c, z0d, z0e, z0h, z0o, z0p, z0q, z0s, z0t, z0v, z0w, z0z, z10, z11, z13, z16, z1e, z1h, z1t, z1u, z1v, z2c, z2j, z2l, z2o, z2w, z2x, z34, z3b, z3c, z3f, z4e, z4f, z4g, z4h, z4i, z4j, z4k, z4l, z4m, z4n, z4o, z4p, z4q, z4r, z4s, z4t, z4u, z4w, z4x, z4y, z4z, z50, z51, z53, z54, z59, z5a, z5c, evalC_block, Nat.reduceAdd, Nat.reduceSub, ↓reduceIte, Hp.cell, tFieldAx47x0, tFieldAx47x7, tFieldAx47x8, tPartx3, tPartx4, tPartx22, eq_true q1, q2, f23] <;> exact ⟨_, rfl, (Keeps.get (by repeat (first | exact Keeps.refl _ | refine Keeps.push ?_ _ | refine Keeps.set ?_ (by first | omega | (simp only [Hp.size_push, Hp.size_setB]; omega)) _)))⟩
  · simp (maxDischargeDepth := 16) only [z04, z05, z08, z09, z0a, z0b, z0d, z0e, z0h, z0o, z0p, z0q, z0s, z0t, z0v, z0w, z0z, z10, z11, z13, z16, z1e, z1h, z1u, z1v, z2c, z2l, z2o, z2w, z2x, z34, z3b, z3c, z3f, z4e, z4f, z4g, z4h, z4i, z4j, z4k, z4l, z4m, z4n, z4p, z4q, z4r, z4s, z4t, z4u, z4w, z4x, z4y, z4z, z50, z51, z53, z54, z5b, z5d, evalC_block, Nat.reduceAdd, Nat.reduceSub, ↓reduceIte, Hp.cell, tFieldAx47x0, tPartx3, q1, f23]
    exact ⟨_, rfl, (Keeps.get (by repeat (first | exact Keeps.refl _ | refine Keeps.push ?_ _ | refine Keeps.set ?_ (by first | omega | (simp only [Hp.size_push, Hp.size_setB]; omega)) _)))⟩
abbrev Avm := Ar.agg R36 (Ar.agg R47 Ar.nil)
def tookB (x : T36) (i e : Int) : Bool := decide (x.2.1.1.1 ≤ i) && !((f57 x i).2.2 && decide ((f57 x i).2.1 = e))
def f27 (x : T36) (y : T47) : Bool × Int :=
  if f15 x = 0 then (if y.1 = 3 then (if 4611686018427387904 < y.2.2.2.2.2.2.2.2.2.2.1.1.1 then (false, 2) else (tookB x y.2.2.2.2.2.2.2.2.2.2.1.1.1 y.2.2.2.2.2.2.2.2.2.2.1.1.2, 0)) else (false, 2)) else (false, f15 x)
noncomputable def g27 := gRd Avm fun x => .tuple #[.bool (f27 x.1 x.2.1).1, .int .i64 (f27 x.1 x.2.1).2]
noncomputable def TT21 : TB := [(15, g15), (57, g57)]
noncomputable abbrev IT21 : Intr := fun f => TT21.lookup f
theorem okT21 : IntrOk Try.prog (CKb Try.prog) IT21 := Con.table fun x hx => by
  simp only [TT21, List.mem_cons, List.not_mem_nil, or_false] at hx
  rcases hx with rfl | rfl
  · exact con15
  · exact con57
theorem con27 : Con Try.prog (CKb Try.prog) 27 g27 := by
  refine Con.rd base okT21 _ (fun a => by simp [flatB]) ?_
  rintro h _ ⟨x, y, ⟨⟩⟩ hro ⟨cs, _, rfl, r, ds, _, rfl, s, rfl⟩
  dsimp only at r s ⊢
  have c15 := call_rdk (P := Try.prog) (A := A36) (I := IT21) (f := 15) (spec := fun x => .int .i64 (f15 x.1)) rfl 9 (show A36.r (· < h.size) h [_] (x, ()) from ⟨_, _, rfl, r, rfl⟩)
  have c57 := fun i hi => call_rdk (P := Try.prog) (A := A36i) (I := IT21) (f := 57) (spec := fun x => .tuple #[vAt (f57 x.1 x.2.1).1 (f57 x.1 x.2.1).2.1, .bool (f57 x.1 x.2.1).2.2]) rfl 9 (show A36i.r (· < h.size) h [_, _] (x, i, ()) from ⟨_, _, rfl, r, _, _, rfl, ⟨rfl, hi⟩, rfl⟩)
  obtain ⟨v1, v2, rfl, -, hx, -, -, -, -, -, -, -, -, h2⟩ := R36_inv r
  obtain ⟨w1, w2, w3, rfl, -, -, -, -, -, -, hw, -, -, -, d1, d2, hw2, d3, d4, d5, d6, d7, d8, -, hw3, -⟩ := R47_inv s
  refine ⟨10, ?_⟩
  show ∃ h', evalV Try.prog IT21 (9 + 1) (.fn 27) _ h = _ ∧ _
  rw [evalV_call (P := Try.prog) (intr := IT21) (f := 27) (m := 51) (rs := #[.tmp 4, .tmp 5]) rfl Try.func27 rfl rfl rfl]
  by_cases q0 : f15 x = 0
  case neg =>
    simp (maxDischargeDepth := 16) only [z05, z08, z09, z0a, z0b, z0d, z0e, z0f, z0o, z0p, z0q, z0s, z0t, z0v, z0w, z0x, z0z, z10, z11, z13, z1e, z1h, z1l, z1v, z2c, z2o, z2x, z34, z38, z39, z3b, z3d, z3f, z3h, z3x, z3y, z3z, z41, z43, z46, z4a, z4e, z4f, z4g, z4h, z4i, z4j, z4k, z4l, z4p, z4q, z4r, z4s, z4t, z4u, z4v, z4w, z4x, z4y, z4z, z52, z53, z5b, z5d, z7v, z7w, Nat.reduceAdd, Nat.reduceSub, ↓reduceIte, Hp.row, hasBx15, tPartx36, ro_le hro, c15, q0, f27]
    exact ⟨_, rfl, (Keeps.get (by repeat (first | exact Keeps.refl _ | refine Keeps.push ?_ _ | refine Keeps.set ?_ (by first | omega | (simp only [Hp.size_push, Hp.size_setB]; omega)) _)))⟩
  by_cases q1 : y.1 = 3
  case neg =>
    simp (maxDischargeDepth := 16) only [z04, z05, z08, z09, z0a, z0b, z0c, z0d, z0e, z0f, z0o, z0p, z0q, z0r, z0s, z0t, z0u, z0v, z0w, z0x, z0z, z10, z11, z12, z13, z16, z1e, z1f, z1g, z1h, z1l, z1v, z1w, z1x, z1y, z2c, z2o, z2w, z2x, z2y, z2z, z34, z35, z36, z38, z39, z3a, z3b, z3d, z3f, z3h, z3k, z3p, z3v, z3w, z3x, z3y, z3z, z40, z41, z42, z43, z44, z45, z46, z49, z4a, z4c, z4e, z4f, z4g, z4h, z4i, z4j, z4k, z4l, z4m, z4n, z4o, z4p, z4q, z4r, z4s, z4t, z4u, z4v, z4w, z4x, z4y, z4z, z50, z51, z52, z53, z54, z59, z5a, z5b, z5c, z5d, z5f, z72, z7v, z7w, Nat.reduceEqDiff, Nat.reduceLeDiff, Nat.reduceAdd, Nat.reduceSub, ↓reduceIte, yielded, Hp.cell, Hp.row, Hp.wr, hasBx15, tFieldAx33x0, tFieldAx47x0, tFieldAx47x10, tPartx3, tPartx24, tPartx36, tSizex24, tZerox24, ro_le hro, hro, c15, eq_true q0, q1, f27]
    exact ⟨_, rfl, (Keeps.get (by repeat (first | exact Keeps.refl _ | refine Keeps.push ?_ _ | refine Keeps.set ?_ (by first | omega | (simp only [Hp.size_push, Hp.size_setB]; omega)) _)))⟩
  by_cases q2 : 4611686018427387904 < y.2.2.2.2.2.2.2.2.2.2.1.1.1
  · simp (maxDischargeDepth := 16) only [z04, z05, z08, z09, z0a, z0b, z0c, z0d, z0e, z0f, z0o, z0p, z0q, z0r, z0s, z0t, z0u, z0v, z0w, z0x, z0z, z10, z11, z12, z13, z16, z1e, z1f, z1g, z1h, z1l, z1v, z1w, z1x, z1y, z2c, z2f, z2o, z2w, z2x, z2y, z2z, z33, z34, z35, z36, z38, z39, z3a, z3b, z3d, z3f, z3h, z3p, z3v, z3w, z3x, z3y, z3z, z40, z41, z42, z43, z44, z45, z46, z49, z4a, z4c, z4e, z4f, z4g, z4h, z4i, z4j, z4k, z4l, z4m, z4n, z4o, z4p, z4q, z4r, z4s, z4t, z4u, z4v, z4w, z4x, z4y, z4z, z50, z51, z52, z53, z54, z59, z5a, z5c, z5e, z5f, z72, z7v, z7w, Nat.reduceEqDiff, Nat.reduceLeDiff, Nat.reduceAdd, Nat.reduceSub, ↓reduceIte, yielded, Hp.cell, Hp.row, Hp.wr, hasBx15, tFieldAx24x0, tFieldAx33x0, tFieldAx47x0, tFieldAx47x10, tPartx3, tPartx22, tPartx24, tPartx36, tSizex24, tZerox24, ro_le hro, hro, c15, eq_true q0, eq_true q1, q2, f27]
    exact ⟨_, rfl, (Keeps.get (by repeat (first | exact Keeps.refl _ | refine Keeps.push ?_ _ | refine Keeps.set ?_ (by first | omega | (simp only [Hp.size_push, Hp.size_setB]; omega)) _)))⟩
  replace c57 := c57 _ d1
  by_cases q3 : x.2.1.1.1 ≤ y.2.2.2.2.2.2.2.2.2.2.1.1.1 <;> cases q4 : (f57 x y.2.2.2.2.2.2.2.2.2.2.1.1.1).2.2 <;> by_cases q5 : (f57 x y.2.2.2.2.2.2.2.2.2.2.1.1.1).2.1 = y.2.2.2.2.2.2.2.2.2.2.1.1.2 <;>
    simp (maxDischargeDepth := 16) only [z04, z05, z08, z09, z0a, z0c, z0d, z0e, z0o, z0p, z0q, z0r, z0s, z0t, z0u, z0v, z0w, z0x, z0z, z10, z11, z12, z13, z14, z16, z1a, z1e, z1f, z1g, z1h, z1l, z1v, z1w, z1x, z1y, z2b, z2c, z2f, z2g, z2h, z2o, z2t, z2w, z2x, z2y, z2z, z33, z34, z35, z36, z38, z39, z3a, z3b, z3d, z3f, z3h, z3l, z3n, z3p, z3v, z3w, z3x, z3y, z3z, z40, z41, z42, z43, z44, z45, z46, z49, z4a, z4b, z4c, z4d, z4e, z4f, z4g, z4h, z4i, z4j, z4k, z4l, z4m, z4n, z4o, z4p, z4q, z4r, z4s, z4t, z4u, z4v, z4w, z4x, z4y, z4z, z50, z51, z52, z53, z54, z59, z5a, z5b, z5c, z5d, z5e, z5f, z5h, z72, z7b, z7v, z7w, z7x, Nat.reduceEqDiff, Nat.reduceLeDiff, Nat.reduceAdd, Nat.reduceSub, ↓reduceIte, yielded, Hp.cell, Hp.row, Hp.wr, hasBx15, hasBx57, tFieldAx24x0, tFieldAx24x1, tFieldAx33x0, tFieldAx36x1, tFieldAx47x0, tFieldAx47x10, tPartx3, tPartx22, tPartx24, tPartx36, tSizex24, tZerox24, ro_le hro, hro, c15, eq_true q0, eq_true q1, q2, q3, q4, q5, c57, f27, tookB, guU] <;> exact ⟨_, rfl, (Keeps.get (by repeat (first | exact Keeps.refl _ | refine Keeps.push ?_ _ | refine Keeps.set ?_ (by first | omega | (simp only [Hp.size_push, Hp.size_setB]; omega)) _)))⟩
end Go.Abs.B1
