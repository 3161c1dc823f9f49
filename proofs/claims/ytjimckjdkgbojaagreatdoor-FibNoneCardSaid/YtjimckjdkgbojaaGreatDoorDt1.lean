/- A trie's first line: does it wake? -/
import Derived.Test.YtjimckjdkgbojaaGreatDoorDc3
import Derived.Test.YtjimckjdkgbojaaGreatDoorAbsF
namespace Go.Abs.D1
open Go.Proofs
set_option maxRecDepth 100000
set_option linter.all false
noncomputable def widA : Array Value := #[.int .i64 0, .int .i64 0, .int .i64 0, .int .i64 0, .int .i64 32, .int .i64 0, .int .i64 128]
noncomputable def debA : Array Value := #[.int .u8 0, .int .u8 1, .int .u8 28, .int .u8 2, .int .u8 29, .int .u8 14, .int .u8 24, .int .u8 3, .int .u8 30, .int .u8 22, .int .u8 20, .int .u8 15, .int .u8 25, .int .u8 17, .int .u8 4, .int .u8 8, .int .u8 31, .int .u8 27, .int .u8 13, .int .u8 23, .int .u8 21, .int .u8 19, .int .u8 16, .int .u8 7, .int .u8 26, .int .u8 12, .int .u8 18, .int .u8 6, .int .u8 11, .int .u8 5, .int .u8 10, .int .u8 9]
noncomputable def hL : Hp := ((bareHp Tryz.prog).setB 0 (some (.cells widA false))).setB 2 (some (.cells debA false))
theorem hL_get (b : Nat) : hL.get b = if b = 2 then some (.cells debA false) else if b = 0 then some (.cells widA false) else none := by
  unfold hL
  rw [Hp.get_setB, Hp.get_setB, bare_get]
theorem flatD : debA.all flatB = true := by kernel_rfl
theorem flatW : widA.all flatB = true := by kernel_rfl
theorem gsz : Tryz.prog.globals.size = 3 := by kernel_rfl
theorem plainL : Plain0 Tryz.prog hL where
  size := rfl
  ro := rfl
  cells := fun b y hy => by
    rw [hL_get] at hy
    rw [gsz]
    split at hy
    · rename_i h; subst h
      cases hy
      exact ⟨by omega, _, rfl, Array.all_eq_true_iff_forall_mem.1 flatD⟩
    · split at hy
      · rename_i h; subst h
        cases hy
        exact ⟨by omega, _, rfl, Array.all_eq_true_iff_forall_mem.1 flatW⟩
      · cases hy
noncomputable def TK : List (FuncId × (Array Value → Hp → Option (Value × Hp))) := [(112, fun args h => (F112 args h).map fun v => (v, h)), (178, fun args h => (F178 args h).map fun v => (v, h))]
noncomputable abbrev IK : Intr := fun f => TK.lookup f
theorem okK : IntrOk Tryz.prog (CKb Tryz.prog) IK := Con.table fun x hx => by
  simp only [TK, List.mem_cons, List.not_mem_nil, or_false] at hx
  rcases hx with rfl | rfl
  · exact con112
  · exact con178
end Go.Abs.D1
