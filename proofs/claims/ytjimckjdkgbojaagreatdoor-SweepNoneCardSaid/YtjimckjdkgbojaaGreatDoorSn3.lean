/- SweepNone: its table, and what is told without a sweep. -/
import Derived.Test.YtjimckjdkgbojaaGreatDoorSn2
namespace Go.Abs.D1
open Go.Proofs
set_option maxRecDepth 100000
set_option maxHeartbeats 4000000
set_option linter.all false
noncomputable def TL5 : List (FuncId × (Array Value → Hp → Option (Value × Hp))) := [(23, gS hL #[] (.bool true)), (112, fun args h => (F112 args h).map fun v => (v, h)), (178, fun args h => (F178 args h).map fun v => (v, h))]
noncomputable abbrev IL5 : Intr := fun f => TL5.lookup f
theorem okL5 : IntrOk Tryz.prog (CKb Tryz.prog) IL5 := Con.table fun x hx => by
  simp only [TL5, List.mem_cons, List.not_mem_nil, or_false] at hx
  rcases hx with rfl | rfl | rfl
  · exact con23
  · exact con112
  · exact con178
theorem nil24 {I : Intr} (h1 : I 24 = none) {N : Nat} {h : Hp} : evalV Tryz.prog I (N + 1) (.fn 24) #[.pointer none] h = some (.tuple #[.bool false, .int .i64 1], h) := by
  rw [evalV_call (P := Tryz.prog) (intr := I) (f := 24) (m := 43) (rs := #[.tmp 2, .tmp 3]) h1 Tryz.func24 rfl rfl rfl]
  simp (maxDischargeDepth := 16) only [z05, z08, z09, z0a, z0b, z0d, z0e, z0f, z0i, z0o, z0p, z0q, z0s, z0t, z0v, z0w, z0z, z10, z11, z13, z3b, z3d, z3f, z4e, z4f, z4g, z4h, z4i, z4p, z4q, z4r, z4s, z4t, z4u, z4w, z4x, z4y, z4z, z52, z53, z7i, z7n, evalC_block, Nat.reduceSub, tPtrx59]
theorem nil25 {I : Intr} (h1 : I 25 = none) {N : Nat} {h : Hp} : evalV Tryz.prog I (N + 1) (.fn 25) #[.pointer none] h = some (.tuple #[.pointer none, .int .i64 1], h) := by
  rw [evalV_call (P := Tryz.prog) (intr := I) (f := 25) (m := 53) (rs := #[.tmp 2, .tmp 3]) h1 Tryz.func25 rfl rfl rfl]
  simp (maxDischargeDepth := 16) only [z05, z08, z09, z0a, z0b, z0d, z0e, z0f, z0o, z0p, z0q, z0s, z0t, z0v, z0w, z0z, z10, z11, z13, z3b, z3d, z3f, z4e, z4f, z4g, z4h, z4i, z4p, z4q, z4r, z4s, z4t, z4u, z4w, z4x, z4y, z4z, z52, z53, z7i, z7n, Nat.reduceSub, tPtrx40]
theorem nil26 {I : Intr} (h1 : I 26 = none) {N : Nat} {h : Hp} : evalV Tryz.prog I (N + 1) (.fn 26) #[.pointer none] h = some (.int .i64 0, h) := by
  rw [evalV_call (P := Tryz.prog) (intr := I) (f := 26) (m := 21) (rs := #[.tmp 2]) h1 Tryz.func26 rfl rfl rfl]
  simp (maxDischargeDepth := 16) only [z05, z08, z09, z0a, z0b, z0d, z0e, z0f, z0o, z0p, z0q, z0r, z0s, z0t, z0v, z0w, z0z, z10, z11, z12, z13, z1y, z3b, z3c, z3f, z3k, z4e, z4f, z4g, z4h, z4i, z4m, z4n, z4o, z4p, z4q, z4r, z4s, z4t, z4u, z4w, z4x, z4y, z4z, z52, z53, z59, z7i, z7n, Nat.reduceSub, ↓reduceIte, yielded, tPtrx59]
theorem nil27 {I : Intr} (h1 : I 27 = none) {N : Nat} {h : Hp} : evalV Tryz.prog I (N + 1) (.fn 27) #[.pointer none] h = some (.bool false, h) := by
  rw [evalV_call (P := Tryz.prog) (intr := I) (f := 27) (m := 11) (rs := #[.tmp 2]) h1 Tryz.func27 rfl rfl rfl]
  simp (maxDischargeDepth := 16) only [z05, z08, z09, z0d, z0e, z0o, z0p, z0q, z0r, z0s, z0t, z0v, z0w, z0z, z10, z11, z12, z13, z1y, z3b, z3c, z3f, z3l, z4e, z4f, z4g, z4h, z4i, z4m, z4n, z4o, z4p, z4q, z4r, z4s, z4t, z4u, z4w, z4x, z4y, z4z, z52, z53, z59, z5c, z7j, z7n, Nat.reduceSub, ↓reduceIte, yielded, tPtrx59]
theorem nil28 {I : Intr} (h1 : I 28 = none) {N : Nat} {h : Hp} : evalV Tryz.prog I (N + 1) (.fn 28) #[.pointer none] h = some (.slice none 0 0, h) := by
  rw [evalV_call (P := Tryz.prog) (intr := I) (f := 28) (m := 11) (rs := #[.tmp 2]) h1 Tryz.func28 rfl rfl rfl]
  simp (maxDischargeDepth := 16) only [z05, z08, z09, z0a, z0b, z0d, z0e, z0f, z0o, z0p, z0q, z0s, z0t, z0v, z0w, z0z, z10, z11, z13, z3b, z3c, z3f, z4e, z4f, z4g, z4h, z4i, z4p, z4q, z4r, z4s, z4t, z4u, z4w, z4x, z4y, z4z, z53, z7i, z7n, Nat.reduceSub, tPtrx59]
theorem fst_ex {r : Option (Value × Hp)} {v : Value} (h : r.map Prod.fst = some v) : ∃ h', r = some (v, h') := by
  rw [Option.map_eq_some_iff] at h
  obtain ⟨⟨a, b⟩, h1, rfl⟩ := h
  exact ⟨b, h1⟩
end Go.Abs.D1
