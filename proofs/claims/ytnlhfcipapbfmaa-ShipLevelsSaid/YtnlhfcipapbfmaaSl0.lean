/- Ships: levels: how a pair lies; small readers. -/
import Derived.Test.YtnlhfcipapbfmaaSq0
import Derived.Test.YtnlhfcipapbfmaaAbsE
namespace Go.Abs.B1
open Go.Proofs
set_option maxRecDepth 10000
set_option maxHeartbeats 4000000
set_option linter.all false
abbrev T95 := List Int
def R95 : Rp T95 := Rp.slice (Rp.int .i64)
abbrev T106 := (Int) × (Int) × (Int) × (T95) × (Int) × (Int)
def R106 : Rp T106 := (Rp.pair (Rp.int .i64) (Rp.pair (Rp.int .i64) (Rp.pair (Rp.int .i64) (Rp.pair R95 (Rp.pair (Rp.int .i64) (Rp.int .i64))))))
theorem R106_inv {o : Bool} {p : Nat → Prop} {h : Hp} {cs : List Value} {x : T106} (r : R106.r o p h cs x) : ∃ (v1 : Value), cs = [.int .i64 x.1, .int .i64 x.2.1, .int .i64 x.2.2.1, v1, .int .i64 x.2.2.2.2.1, .int .i64 x.2.2.2.2.2] ∧ (IntKind.i64.min ≤ x.1 ∧ x.1 ≤ IntKind.i64.max) ∧ (IntKind.i64.min ≤ x.2.1 ∧ x.2.1 ≤ IntKind.i64.max) ∧ (IntKind.i64.min ≤ x.2.2.1 ∧ x.2.2.1 ≤ IntKind.i64.max) ∧ R95.r o p h [v1] x.2.2.2.1 ∧ (IntKind.i64.min ≤ x.2.2.2.2.1 ∧ x.2.2.2.2.1 ≤ IntKind.i64.max) ∧ (IntKind.i64.min ≤ x.2.2.2.2.2 ∧ x.2.2.2.2.2 ≤ IntKind.i64.max) := by
  have r0 : (Rp.pair (Rp.int .i64) (Rp.pair (Rp.int .i64) (Rp.pair (Rp.int .i64) (Rp.pair R95 (Rp.pair (Rp.int .i64) (Rp.int .i64)))))).r o p h cs x := r
  obtain ⟨_, _, rfl, f2, g2⟩ := Rp.pair_inv r0
  obtain ⟨rfl, b3⟩ := Rp.int_inv f2
  obtain ⟨_, _, rfl, f4, g4⟩ := Rp.pair_inv g2
  obtain ⟨rfl, b5⟩ := Rp.int_inv f4
  obtain ⟨_, _, rfl, f6, g6⟩ := Rp.pair_inv g4
  obtain ⟨rfl, b7⟩ := Rp.int_inv f6
  obtain ⟨_, _, rfl, f8, g8⟩ := Rp.pair_inv g6
  obtain ⟨w9, rfl⟩ := one_cell rfl f8
  obtain ⟨_, _, rfl, f10, g10⟩ := Rp.pair_inv g8
  obtain ⟨rfl, b11⟩ := Rp.int_inv f10
  obtain ⟨rfl, b12⟩ := Rp.int_inv g10
  exact ⟨w9, by first | rfl | simp, b3, b5, b7, f8, b11, b12⟩
theorem R106_mk {o : Bool} {p : Nat → Prop} {h : Hp} {x : T106} {w4 : Value} (q1 : IntKind.i64.min ≤ x.1 ∧ x.1 ≤ IntKind.i64.max) (q2 : IntKind.i64.min ≤ x.2.1 ∧ x.2.1 ≤ IntKind.i64.max) (q3 : IntKind.i64.min ≤ x.2.2.1 ∧ x.2.2.1 ≤ IntKind.i64.max) (q4 : R95.r o p h [w4] x.2.2.2.1) (q5 : IntKind.i64.min ≤ x.2.2.2.2.1 ∧ x.2.2.2.2.1 ≤ IntKind.i64.max) (q6 : IntKind.i64.min ≤ x.2.2.2.2.2 ∧ x.2.2.2.2.2 ≤ IntKind.i64.max) : R106.r o p h ([.int .i64 x.1, .int .i64 x.2.1, .int .i64 x.2.2.1, w4, .int .i64 x.2.2.2.2.1, .int .i64 x.2.2.2.2.2]) x := by
  have e : ([.int .i64 x.1, .int .i64 x.2.1, .int .i64 x.2.2.1, w4, .int .i64 x.2.2.2.2.1, .int .i64 x.2.2.2.2.2] : List Value) = ([.int .i64 x.1] ++ ([.int .i64 x.2.1] ++ ([.int .i64 x.2.2.1] ++ ([w4] ++ ([.int .i64 x.2.2.2.2.1] ++ [.int .i64 x.2.2.2.2.2]))))) := by first | rfl | simp
  rw [e]
  exact (Rp.pair_mk (Rp.int_mk q1) (Rp.pair_mk (Rp.int_mk q2) (Rp.pair_mk (Rp.int_mk q3) (Rp.pair_mk q4 (Rp.pair_mk (Rp.int_mk q5) (Rp.int_mk q6))))))
theorem lies95_11 : LiesRp Try.prog 11 95 R95 := liesRp_slice (e := 3) (by kernel_rfl) (liesRp_int (by kernel_rfl)) (by rw [show Try.prog.bytesOf 3 = 8 from by kernel_rfl]; decide)
theorem lies106_12 : LiesRp Try.prog 12 106 R106 := liesRp_struct (fs := #[(Field.mk "Common" 3 0 Bool.false "" "" 0), (Field.mk "Mine" 3 1 Bool.false "" "" 8), (Field.mk "Theirs" 3 2 Bool.false "" "" 16), (Field.mk "Rise" 95 3 Bool.false "" "" 24), (Field.mk "Based" 3 4 Bool.false "" "" 48), (Field.mk "TheirBase" 3 5 Bool.false "" "" 56)]) (by kernel_rfl) (liesRpF_cons (liesRp_int (by kernel_rfl)) (liesRpF_cons (liesRp_int (by kernel_rfl)) (liesRpF_cons (liesRp_int (by kernel_rfl)) (liesRpF_cons lies95_11 (liesRpF_cons (liesRp_int (by kernel_rfl)) (liesRpF_last (liesRp_int (by kernel_rfl))))))))
abbrev A95 := Ar.one R95 (Ar.one (Rp.int .i64) Ar.nil)
def ixD (xs : List Int) (x : Int) : Int := if x ∈ xs then (xs.idxOf x : Int) else -1
noncomputable def g106 := gRd A95 fun x => .int .i64 (ixD x.1 x.2.1)
theorem con106 : Con Try.prog (CKb Try.prog) 106 g106 := by
  refine Con.rd base ok0 _ (fun a => by simp [flatB]) ?_
  rintro h _ ⟨xs, y, ⟨⟩⟩ hro ⟨v, _, rfl, r, w, _, rfl, ⟨e, hy⟩, rfl⟩
  simp only [List.cons.injEq, and_true] at e
  subst e
  dsimp only at r hy ⊢
  obtain ⟨a, c, rfl, -, hl⟩ := slice_form r
  unfold capOpen at hl
  refine ⟨xs.length + 9 + 1, ?_⟩
  show ∃ h', evalV Try.prog I0 (xs.length + 9 + 1) (.fn 106) _ h = _ ∧ _
  rw [evalV_call (P := Try.prog) (intr := I0) (f := 106) (m := 19) (rs := #[.tmp 4]) rfl Try.func106 rfl rfl rfl]
  simp (maxDischargeDepth := 16) only [z08, z09, z0d, z0e, z0p, z0q, z0s, z0t, z0v, z0w, z0z, z10, z11, z1p, z1r, z3b, z4e, z4f, z4g, z4h, z4i, z4p, z4q, z4r, z4s, z4t, z4u, z4w, z4x, z4y, z53, evalC_block, Nat.reduceAdd, Nat.reduceSub, tLenx95]
  refine loop_rule (fun r : Option (Value × Hp) => ∃ k', r = some (.int .i64 (ixD xs y), k') ∧ ∀ b, b < h.size → k'.get b = h.get b)
    (fun m x k => ∃ i : Nat, m = xs.length - i ∧ i ≤ xs.length ∧ y ∉ xs.take i ∧ k = h ∧ x.tmps.size = 19 ∧ x.defers = [] ∧ x.tmps.getD 0 undef = .slice a xs.length c ∧ x.tmps.getD 1 undef = .int .i64 y ∧ x.tmps.getD 6 undef = .slice a xs.length c ∧ x.tmps.getD 7 undef = .int .i64 (xs.length : Int) ∧ x.tmps.getD 8 undef = .int .i64 (i : Int)) ?_ _ xs.length _ _ ?_ ?_
  · intro m n' x k hI ih
    obtain ⟨i, hm, hi, ht, rfl, hxs, hxd, l0, l1, l6, l7, l8⟩ := hI
    obtain ⟨g, rfl⟩ : ∃ g : Nat → Value, x = { tmps := #[.slice a xs.length c, .int .i64 y, g 2, g 3, g 4, g 5, .slice a xs.length c, .int .i64 (xs.length : Int), .int .i64 (i : Int), g 9, g 10, g 11, g 12, g 13, g 14, g 15, g 16, g 17, g 18], defers := [] } := ⟨fun k => x.tmps.getD k undef, (act_eta hxs hxd).trans (by simp only [unrollL, Nat.reduceAdd, Nat.zero_add, l0, l1, l6, l7, l8])⟩; clear hxs hxd l0 l1 l6 l7 l8
    by_cases hlt : i < xs.length
    · have hlt' := lt_cast hlt
      obtain ⟨q1, q2, q3⟩ := dec_meas hlt hm
      obtain ⟨z, hz⟩ : ∃ z, xs[i]? = some z := ⟨_, List.getElem?_eq_getElem hlt⟩
      obtain ⟨b, off, _, cells, ow, part, e, hb, hg, -, ⟨rfl, hf⟩, hle, hex, hcell⟩ := elem_at (s := 1) r hz rfl (by decide)
      cases e
      have h1 := hcell 0 (by omega)
      simp only [Nat.add_zero, Nat.mul_one, List.getElem?_cons_zero] at h1
      have hnn : (0 ≤ (i : Int)) = True := by simp
      have w3 := i64_succ (i := i) (by omega)
      by_cases hzy : y = z
      · subst hzy
        have hix : ixD xs y = (i : Int) := by
          unfold ixD
          rw [if_pos (List.mem_of_getElem? hz)]
          have := List.idxOf_append (a := y) (l₁ := xs.take i) (l₂ := xs.drop i)
          rw [if_neg ht, List.take_append_drop, List.drop_eq_getElem_cons hlt] at this
          rw [List.getElem?_eq_getElem hlt] at hz
          simp only [Option.some.injEq] at hz
          rw [hz, List.idxOf_cons_self, List.length_take] at this
          rw [this]; omega
        simp (maxDischargeDepth := 16) only [z04, z05, z08, z09, z0a, z0b, z0d, z0e, z0f, z0i, z0l, z0o, z0p, z0q, z0s, z0t, z0v, z0z, z10, z11, z13, z18, z1e, z1v, z1z, z2b, z2d, z2u, z2x, z3b, z3c, z3f, z4e, z4f, z4g, z4h, z4i, z4z, z50, z51, z5a, evalC_block, Hp.cell, tElemx95, tPartx3, hlt', hnn, hg, Int.toNat_natCast, h1, Nat.mul_one, hix]
        exact ⟨_, rfl, fun _ _ => rfl⟩
      · have hzy' : (y = z) = False := eq_false hzy
        simp (maxDischargeDepth := 16) only [z04, z08, z09, z0a, z0b, z0c, z0d, z0e, z0h, z0k, z0p, z0q, z0s, z0t, z0v, z0w, z0z, z10, z11, z13, z18, z1e, z1v, z1z, z24, z2b, z2d, z2u, z2x, z3b, z4e, z4f, z4g, z4h, z4i, z50, z51, z5a, z5b, evalC_block, Hp.cell, tElemx95, tPartx3, hlt', hnn, hg, Int.toNat_natCast, h1, Nat.mul_one, hzy', w3]
        refine ih (m - 1) _ _ q1 ⟨i + 1, q2, q3, ?_, rfl, rfl, rfl, rfl, rfl, rfl, rfl, rfl⟩
        rw [List.take_add_one, hz]
        simp only [Option.toList_some, List.mem_append, List.mem_singleton, not_or]
        exact ⟨ht, hzy⟩
    · have hlt' := nlt_cast hlt
      have : i = xs.length := by omega
      subst this
      rw [List.take_length] at ht
      have hix : ixD xs y = -1 := by unfold ixD; rw [if_neg ht]
      simp (maxDischargeDepth := 16) only [z05, z06, z08, z09, z0a, z0c, z0d, z0e, z0g, z0j, z0m, z0o, z0p, z0q, z0s, z0t, z0v, z0w, z0z, z11, z13, z2d, z3b, z3c, z3f, z4e, z4f, z4g, z4h, z4i, z4z, z5b, ↓reduceIte, hlt', hix]
      exact ⟨_, rfl, fun _ _ => rfl⟩
  · omega
  · exact ⟨0, by omega, by omega, by simp, rfl, rfl, rfl, rfl, rfl, rfl, rfl, rfl⟩
noncomputable def g76 := gRd A95 fun x => .bool (decide (x.2.1 ∈ x.1))
noncomputable def TSl : TB := [(106, g106)]
noncomputable abbrev ISl : Intr := fun f => TSl.lookup f
theorem okSl : IntrOk Try.prog (CKb Try.prog) ISl := Con.table fun x hx => by
  simp only [TSl, List.mem_cons, List.not_mem_nil, or_false] at hx
  subst hx
  exact con106
theorem con76 : Con Try.prog (CKb Try.prog) 76 g76 := by
  refine Con.rd base okSl _ (fun a => by simp [flatB]) ?_
  rintro h _ ⟨xs, y, ⟨⟩⟩ hro ⟨v, _, rfl, r, w, _, rfl, ⟨e, hy⟩, rfl⟩
  simp only [List.cons.injEq, and_true] at e
  subst e
  dsimp only at r hy ⊢
  have c106 := call_rdk (P := Try.prog) (A := A95) (I := ISl) (f := 106) (spec := fun x => .int .i64 (ixD x.1 x.2.1)) rfl 9 (show A95.r (· < h.size) h [v, .int .i64 y] (xs, y, ()) from ⟨_, _, rfl, r, _, _, rfl, ⟨rfl, hy⟩, rfl⟩)
  have o1 : oneC v = true := (Rp.slice (Rp.int .i64)).rone r v (by simp)
  have hd : decide (0 ≤ ixD xs y) = decide (y ∈ xs) := by
    unfold ixD
    by_cases q : y ∈ xs
    · rw [if_pos q]; simp [q]
    · rw [if_neg q]; simp [q]
  refine ⟨10, ?_⟩
  show ∃ h', evalV Try.prog ISl (9 + 1) (.fn 76) _ h = _ ∧ _
  rw [evalV_call (P := Try.prog) (intr := ISl) (f := 76) (m := 9) (rs := #[.tmp 4]) rfl Try.func76 rfl rfl rfl]
  simp (maxDischargeDepth := 16) only [z05, z08, z09, z0d, z0e, z0o, z0p, z0q, z0s, z0t, z0v, z0w, z0x, z0z, z10, z11, z13, z1l, z2g, z3b, z3c, z3f, z3h, z4e, z4f, z4g, z4h, z4i, z4j, z4k, z4l, z4p, z4q, z4r, z4s, z4t, z4u, z4v, z4w, z4x, z4y, z4z, z53, z7v, Nat.reduceAdd, Nat.reduceSub, ↓reduceIte, hasBx106, c106, hd]
  exact ⟨_, rfl, (Keeps.get (by repeat (first | exact Keeps.refl _ | refine Keeps.push ?_ _ | refine Keeps.set ?_ (by first | omega | (simp only [Hp.size_push, Hp.size_setB]; omega)) _)))⟩
end Go.Abs.B1
