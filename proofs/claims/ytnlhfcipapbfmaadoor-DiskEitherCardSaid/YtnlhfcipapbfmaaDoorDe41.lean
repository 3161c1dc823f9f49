/- The row of truth values that keeps all, as it is laid. -/
import Derived.Test.YtnlhfcipapbfmaaDoorDe38
import Derived.Test.YtnlhfcipapbfmaaDoorAbsE
import Derived.Test.YtnlhfcipapbfmaaDoorRows
namespace Go.Abs.B1d
open Go.Proofs
set_option maxRecDepth 100000
set_option linter.all false
def lay : List (String × DataW Unit) := [("junctionbox/junctionboxlaw02.all", YtnlhfcipapbfmaaDoor.Rows.laid_junctionbox_junctionboxlaw02_all)]
theorem gAll : Tryd.prog.globalNamed "junctionbox/junctionboxlaw02.all" = some 0 := by kernel_rfl
theorem tAll : (Tryd.prog.globals[0]?).map (·.type) = some 23 := by kernel_rfl
def all8 : List Bool := List.replicate 8 true
abbrev S (h : Hp) : Prop := BoolsAt h 0 all8
theorem S_mono (h h' : Hp) (hs : h.size ≤ h'.size) (hg : ∀ b, b < h.size → h'.get b = h.get b) (s : S h) : S h' := BoolsAt.mono s hs hg
theorem start (W : World) (hl : laidMetH Tryd.prog lay W) : ∃ β h, RO Tryd.prog (CKb Tryd.prog) β h W ∧ S h := by
  rw [MakeChecks.laidMetH_plain _ _ _ (by kernel_rfl)] at hl
  obtain ⟨ps, ⟨g0, t0, cs0, f0, p0, q0, hg0, ht0, hv0, hd0, _, _⟩, _, _⟩ := hl
  obtain rfl := Option.some.inj (gAll.symm.trans hg0)
  obtain rfl := Option.some.inj (tAll.symm.trans ht0)
  have hgs : 0 < Tryd.prog.globals.size := by
    have : ∀ o, (Tryd.prog.globals[0]?).map (·.type) = some o → 0 < Tryd.prog.globals.size := by
      intro o h
      rw [Option.map_eq_some_iff] at h
      obtain ⟨a, ha, _⟩ := h
      exact (Array.getElem?_eq_some_iff.1 ha).1
    exact this _ tAll
  exact laid_bools (bs := all8) gAll hgs hv0 (e := 4) (by kernel_rfl) (by kernel_rfl) (by kernel_rfl) (by simp [all8]) (by simp [all8]) hd0
theorem rows_bool {o : Bool} {p : Nat → Prop} {h : Hp} : ∀ xs : List Bool, rows Rp.bool o p h (xs.map Value.bool) xs
  | [] => rfl
  | x :: xs => ⟨[.bool x], _, rfl, rfl, rows_bool xs⟩
/-- What is known of it, of a row of truth values. -/
theorem S_rp {h : Hp} (s : S h) : ∃ va, h.get 0 = some (.cells #[va] false) ∧ 0 < h.size ∧ (Rp.slice Rp.bool).r false (· < h.size) h [va] all8 := by
  obtain ⟨b, h1, h2, h3, h4⟩ := s
  refine ⟨_, h1, h3, some ⟨b, 0, none⟩, all8.length, rfl, ?_, by simp [all8, capOpen], .inr ⟨b, 0, _, false, rfl, h4, h2, id, fun v hv => ?_, by simp [all8, Rp.bool], ?_⟩⟩
  · exact ⟨Nat.le_refl _, .inl (by simp [all8, capOpen])⟩
  · obtain ⟨x, -, rfl⟩ := List.mem_map.1 (List.mem_toArray.1 hv)
    simp [vin, vokB]
  · have : (((all8.map Value.bool).toArray.toList.drop 0).take (all8.length * Rp.bool.len)) = all8.map Value.bool := by
      rfl
    rw [this]
    exact rows_bool all8
theorem lies23_11 : LiesRp Tryd.prog 11 23 R23 := liesRp_slice (e := 4) (by kernel_rfl) (liesRp_bool (by kernel_rfl)) (by rw [show Tryd.prog.bytesOf 4 = 1 from by kernel_rfl]; decide)
theorem lies23_12 : LiesRp Tryd.prog 12 23 R23 := liesRp_slice (e := 4) (by kernel_rfl) (liesRp_bool (by kernel_rfl)) (by rw [show Tryd.prog.bytesOf 4 = 1 from by kernel_rfl]; decide)
theorem lies42_12 : LiesRp Tryd.prog 12 42 R42 := liesRp_struct (fs := #[(Field.mk "Kind" 3 0 Bool.false "" "" 0), (Field.mk "Sector" 3 1 Bool.false "" "" 8), (Field.mk "N" 3 2 Bool.false "" "" 16), (Field.mk "Fill" 5 3 Bool.false "" "" 24), (Field.mk "Keep" 23 4 Bool.false "" "" 32)]) (by kernel_rfl) (liesRpF_cons (liesRp_int (by kernel_rfl)) (liesRpF_cons (liesRp_int (by kernel_rfl)) (liesRpF_cons (liesRp_int (by kernel_rfl)) (liesRpF_cons (liesRp_int (by kernel_rfl)) (liesRpF_last lies23_11)))))
theorem door_met (os : Os) (args : Array Value) : laidMetH Tryd.prog lay ((World.doorLaid Tryd.prog 400 os).forCall (fun _ _ => 0) ⟨#[], args, []⟩).memory :=
  laidMetH_of_parts3 (fuel := 8) (laidMet_of_run' 8 (by kernel_rfl) (by kernel_rfl)) (by kernel_rfl) (by kernel_rfl)
end Go.Abs.B1d
