/- The two laid variables. -/
import Derived.Test.YtjimckjdkgbojaaGreatDoorDt1
import Derived.Test.YtjimckjdkgbojaaGreatDoorAbsE
import Derived.Test.YtjimckjdkgbojaaGreatDoorRows
namespace Go.Abs.D1
open Go.Proofs
set_option maxRecDepth 100000
set_option linter.all false
def lay : List (String × DataW Unit) := [("math/bits.deBruijn32tab", YtjimckjdkgbojaaGreatDoor.Rows.laid_math_bits_deBruijn32tab), ("junctionbox/prefix.widths", YtjimckjdkgbojaaGreatDoor.Rows.laid_junctionbox_prefix_widths)]
theorem gDeb : Tryz.prog.globalNamed "math/bits.deBruijn32tab" = some 2 := by kernel_rfl
theorem gWid : Tryz.prog.globalNamed "junctionbox/prefix.widths" = some 0 := by kernel_rfl
theorem tDeb : (Tryz.prog.globals[2]?).map (·.type) = some 317 := by kernel_rfl
theorem tWid : (Tryz.prog.globals[0]?).map (·.type) = some 237 := by kernel_rfl
theorem uDeb : Tryz.prog.underlying 317 = some (.array 32 5) := by kernel_rfl
theorem uWid : Tryz.prog.underlying 237 = some (.array 7 3) := by kernel_rfl
theorem u5 : Tryz.prog.underlying 5 = some (.int .u8) := by kernel_rfl
theorem u3 : Tryz.prog.underlying 3 = some (.int .i64) := by kernel_rfl
def debV : List Int := [0, 1, 28, 2, 29, 14, 24, 3, 30, 22, 20, 15, 25, 17, 4, 8, 31, 27, 13, 23, 21, 19, 16, 7, 26, 12, 18, 6, 11, 5, 10, 9]
def widV : List Int := [0, 0, 0, 0, 32, 0, 128]
def partsOf : DataW Unit → List (DataW Unit)
  | .agg l => l
  | _ => []
theorem arr_laid {W : World} {name : String} {g t e n : Nat} {k : IntKind} {cs : Array Value} {vals : List Int} {D : DataW Unit} {held : Bool} {enc : TypeId × Value → Unit} {fuel : Nat} {p : List MemPlace} (hg : Tryz.prog.globalNamed name = some g) (hv : W.var? Tryz.prog name = some cs)
    (ut : Tryz.prog.underlying t = some (.array n e)) (ue : Tryz.prog.underlying e = some (.int k)) (ce : Tryz.prog.cellsOf e = 1) (ct : Tryz.prog.cellsOf t = n) (hl : partsOf D = vals.map fun x => .lit (.int k x)) (hn : vals.length = n)
    (hd : DataW.trod enc Tryz.prog W 0 (fun _ => true) held fuel t cs.toList = some (D, p)) : cs = (vals.map (Value.int k)).toArray ∧ ∃ e fz, W.heap[g]? = some (.cells cs e fz) := by
  obtain ⟨xs, m1, rfl, hx1, hlen, hn3, hel⟩ := DataW.trod_array ut hd
  rw [ct] at hlen
  simp only [ce, Nat.mul_one] at hel
  have hsz : cs.size = n := by simpa using hlen
  have hcell : ∀ i, i < n → ∃ n, cs[i]? = some (.int k n) ∧ (xs.map (·.1))[i]? = some (.lit (.int k n)) := by
    intro i hi
    obtain ⟨x, hx⟩ : ∃ x, xs[i]? = some x := ⟨_, List.getElem?_eq_getElem (by omega)⟩
    have := hel i hi
    rw [hx] at this
    obtain ⟨n, e1, e2, _⟩ := DataW.trod_int ue this
    refine ⟨n, ?_, by rw [List.getElem?_map, hx, e2]; rfl⟩
    have e3 : (cs.toList.drop i)[0]? = some (.int k n) := by
      have : ((cs.toList.drop i).take 1)[0]? = some (.int k n) := by rw [e1]; rfl
      rw [List.getElem?_take] at this
      simpa using this
    rw [List.getElem?_drop] at e3
    simpa using e3
  have hpart : partsOf D = xs.map (·.1) := by
    simp only [Prod.mk.injEq] at hx1
    rw [hx1.1]; rfl
  refine ⟨arr_cells (lits := xs.map (·.1)) (hpart.symm.trans hl) (by omega) (fun i hi => hcell i (by omega)), ?_⟩
  simp only [World.var?, hg, Option.bind_some] at hv
  split at hv
  · rename_i cs e fz hh
    cases hv
    exact ⟨e, fz, hh⟩
  · cases hv
def S (h : Hp) : Prop := SubH hL h ∧ 3 ≤ h.size
theorem S_mono (h h' : Hp) (hs : h.size ≤ h'.size) (hg : ∀ b, b < h.size → h'.get b = h.get b) (s : S h) : S h' := by
  refine ⟨fun b y hy => ?_, by have := s.2; omega⟩
  have hb : b < 3 := by have := (plainL.cells b y hy).1; rw [gsz] at this; exact this
  rw [hg b (by have := s.2; omega)]
  exact s.1 b y hy
theorem start (W : World) (hl : laidMetH Tryz.prog lay W) : ∃ β h, RO Tryz.prog (CKb Tryz.prog) β h W ∧ S h := by
  rw [MakeChecks.laidMetH_plain _ _ _ (by kernel_rfl)] at hl
  obtain ⟨ps, ⟨g0, t0, cs0, f0, p0, q0, hg0, ht0, hv0, hd0, hl1, _⟩, _, _⟩ := hl
  obtain ⟨g1, t1, cs1, f1, p1, q1, hg1, ht1, hv1, hd1, _, _⟩ := hl1
  obtain rfl := Option.some.inj (gDeb.symm.trans hg0)
  obtain rfl := Option.some.inj (tDeb.symm.trans ht0)
  obtain rfl := Option.some.inj (gWid.symm.trans hg1)
  obtain rfl := Option.some.inj (tWid.symm.trans ht1)
  obtain ⟨a1, a2⟩ := arr_laid (vals := debV) gDeb hv0 uDeb u5 (by kernel_rfl) (by kernel_rfl) (by kernel_rfl) rfl hd0
  obtain ⟨b1, b2⟩ := arr_laid (vals := widV) gWid hv1 uWid u3 (by kernel_rfl) (by kernel_rfl) (by kernel_rfl) rfl hd1
  have ea : (debV.map (Value.int .u8)).toArray = debA := rfl
  have eb : (widV.map (Value.int .i64)).toArray = widA := rfl
  rw [ea] at a1
  rw [eb] at b1
  refine ⟨_, _, plain_ro plainL fun b cs hb => ?_, fun b y hy => hy, by rw [plainL.size, gsz]; exact Nat.le_refl _⟩
  rw [hL_get] at hb
  split at hb
  · rename_i h; subst h
    cases hb
    rw [← a1]; exact a2
  · split at hb
    · rename_i h; subst h
      cases hb
      rw [← b1]; exact b2
    · cases hb
theorem door_met (os : Os) (args : Array Value) : laidMetH Tryz.prog lay ((World.doorLaid Tryz.prog 400 os).forCall (fun _ _ => 0) ⟨#[], args, []⟩).memory :=
  laidMetH_of_parts3 (fuel := 8) (laidMet_of_run' 8 (by kernel_rfl) (by kernel_rfl)) (by kernel_rfl) (by kernel_rfl)
end Go.Abs.D1
