/- The table of the lowest bits, as it is laid. -/
import Derived.Test.YtgdbkohmdflckaaDoorDa11
import Derived.Test.YtgdbkohmdflckaaDoorAbsD
import Derived.Test.YtgdbkohmdflckaaDoorRows
namespace Go.Abs.A1d
open Go.Proofs
set_option maxRecDepth 100000
set_option linter.all false
def lay : List (String × DataW Unit) := [("math/bits.deBruijn32tab", YtgdbkohmdflckaaDoor.Rows.laid_math_bits_deBruijn32tab)]
theorem gTab : Tryd.prog.globalNamed "math/bits.deBruijn32tab" = some 0 := by kernel_rfl
theorem tTab : (Tryd.prog.globals[0]?).map (·.type) = some 49 := by kernel_rfl
def partsOf : DataW Unit → List (DataW Unit)
  | .agg l => l
  | _ => []
def layB : Bool := (List.range 32).all fun c => match (partsOf YtgdbkohmdflckaaDoor.Rows.laid_math_bits_deBruijn32tab)[deB c]? with
  | some (.lit (.int .u8 x)) => decide (x = (c : Int))
  | _ => false
theorem layB_ok : layB = true := by kernel_rfl
def S (h : Hp) : Prop := ∃ tab, tabOk tab = true ∧ h.get 0 = some (.cells tab false) ∧ 0 < h.size
theorem S_mono (h h' : Hp) (hs : h.size ≤ h'.size) (hg : ∀ b, b < h.size → h'.get b = h.get b) (s : S h) : S h' := by
  obtain ⟨tab, h1, h2, h3⟩ := s
  exact ⟨tab, h1, by rw [hg 0 h3]; exact h2, by omega⟩
theorem start (W : World) (hl : laidMetH Tryd.prog lay W) : ∃ β h, RO Tryd.prog (CKb Tryd.prog) β h W ∧ S h := by
  rw [MakeChecks.laidMetH_plain _ _ _ (by kernel_rfl)] at hl
  obtain ⟨ps, ⟨g0, t0, cs0, f0, p0, q0, hg0, ht0, hv0, hd0, _, _⟩, _, _⟩ := hl
  obtain rfl := Option.some.inj (gTab.symm.trans hg0)
  obtain rfl := Option.some.inj (tTab.symm.trans ht0)
  obtain ⟨xs, m1, rfl, hx1, hlen, hn3, hel⟩ := DataW.trod_array Tryd.underlying49 hd0
  have c5 : Tryd.prog.cellsOf 5 = 1 := by kernel_rfl
  have c49 : Tryd.prog.cellsOf 49 = 32 := by kernel_rfl
  rw [c49] at hlen
  simp only [c5, Nat.mul_one] at hel
  have hsz : cs0.size = 32 := by simpa using hlen
  have hcell : ∀ i, i < 32 → ∃ n, cs0[i]? = some (.int .u8 n) ∧ (xs.map (·.1))[i]? = some (.lit (.int .u8 n)) := by
    intro i hi
    obtain ⟨x, hx⟩ : ∃ x, xs[i]? = some x := ⟨_, List.getElem?_eq_getElem (by omega)⟩
    have := hel i hi
    rw [hx] at this
    obtain ⟨n, e1, e2, _⟩ := DataW.trod_int Tryd.underlying5 this
    refine ⟨n, ?_, by rw [List.getElem?_map, hx, e2]; rfl⟩
    have e3 : (cs0.toList.drop i)[0]? = some (.int .u8 n) := by
      have : ((cs0.toList.drop i).take 1)[0]? = some (.int .u8 n) := by rw [e1]; rfl
      rw [List.getElem?_take] at this
      simpa using this
    rw [List.getElem?_drop] at e3
    simpa using e3
  have ho : ∃ e fz, W.heap[0]? = some (.cells cs0 e fz) := by
    simp only [World.var?, hg0, Option.bind_some] at hv0
    split at hv0
    · rename_i cs e fz hh
      cases hv0
      exact ⟨e, fz, hh⟩
    · cases hv0
  obtain ⟨e, fz, ho⟩ := ho
  have hgs : 0 < Tryd.prog.globals.size := by
    have : ∀ o, (Tryd.prog.globals[0]?).map (·.type) = some o → 0 < Tryd.prog.globals.size := by
      intro o h
      rw [Option.map_eq_some_iff] at h
      obtain ⟨a, ha, _⟩ := h
      exact (Array.getElem?_eq_some_iff.1 ha).1
    exact this _ tTab
  have hpart : partsOf YtgdbkohmdflckaaDoor.Rows.laid_math_bits_deBruijn32tab = xs.map (·.1) := by
    simp only [Prod.mk.injEq] at hx1
    rw [hx1.1]; rfl
  have hlb := layB_ok
  unfold layB at hlb
  rw [hpart] at hlb
  refine ⟨_, _, laid_ro hgs ho (fun v hv => ?_), cs0, ?_, ?_, hgs⟩
  · obtain ⟨i, hi, rfl⟩ := Array.mem_iff_getElem.1 hv
    obtain ⟨n, hn, _⟩ := hcell i (by omega)
    rw [Array.getElem?_eq_getElem hi] at hn
    rw [Option.some.inj hn]; simp [flatB]
  · simp only [tabOk, Bool.and_eq_true]
    refine ⟨by simp [hsz], List.all_eq_true.2 fun c hc => ?_⟩
    have := List.all_eq_true.1 hlb c hc
    obtain ⟨n, h1, h2⟩ := hcell (deB c) (deB_lt c)
    rw [h2] at this
    rw [h1]
    exact this
  · unfold laidHp
    rw [Hp.get_setB, if_pos rfl]
end Go.Abs.A1d
