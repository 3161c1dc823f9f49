/- What is told of other versions, and without an arena: run. -/
import Derived.Test.YtjimckjdkgbojaaGreatDoorDt2
import Derived.Test.YtjimckjdkgbojaaGreatDoorDt3
namespace Go.Abs.D1
open Go.Proofs
set_option maxRecDepth 100000
set_option linter.all false
noncomputable def G14 (args : Array Value) (h : Hp) : Option (Value × Hp) :=
  match args.toList with
  | [] => match chk h with
    | true => some (.bool true, h)
    | false => none
  | _ => none
theorem con14K : Con Tryz.prog (CKb Tryz.prog) 14 G14 := fun args h v h' hg β w r ha => by
  refine con14 args h v h' ?_ β w r ha
  unfold G14 at hg
  split at hg
  · rename_i hargs
    split at hg
    · rename_i hc
      cases hg
      have : args = #[] := by apply Array.ext'; rw [hargs]
      rw [this]
      exact gS_at (chk_sub hc)
    · cases hg
  · cases hg
noncomputable def T4 : List (FuncId × (Array Value → Hp → Option (Value × Hp))) := [(14, G14), (93, fun args h => (F93 args h).map fun v => (v, h))]
noncomputable abbrev I4 : Intr := fun f => T4.lookup f
theorem ok4 : IntrOk Tryz.prog (CKb Tryz.prog) I4 := Con.table fun x hx => by
  simp only [T4, List.mem_cons, List.not_mem_nil, or_false] at hx
  rcases hx with rfl | rfl
  · exact con14K
  · exact con93
def rowV (a0 a1 a2 a3 a4 a5 a6 a7 a8 a9 a10 a11 a12 a13 a14 a15 a16 a17 a18 : Int) : Value := .agg #[.int .i64 a0, .int .u8 a1, .int .u8 a2, .int .u8 a3, .int .u8 a4, .int .u8 a5, .int .u8 a6, .int .u8 a7, .int .u8 a8, .int .u8 a9, .int .u8 a10, .int .u8 a11, .int .u8 a12, .int .u8 a13, .int .u8 a14, .int .u8 a15, .int .u8 a16, .int .i64 a17, .int .i64 a18]
def seekV (s0 s1 s2 s3 s4 s5 s6 s7 s8 s9 s10 s11 s12 s13 s14 s15 s16 s17 s18 s19 s20 : Int) (b1 b2 : Bool) : Value := .agg #[.int .i64 s0, .int .u8 s1, .int .u8 s2, .int .u8 s3, .int .u8 s4, .int .u8 s5, .int .u8 s6, .int .u8 s7, .int .u8 s8, .int .u8 s9, .int .u8 s10, .int .u8 s11, .int .u8 s12, .int .u8 s13, .int .u8 s14, .int .u8 s15, .int .u8 s16, .int .i64 s17, .int .i64 s18, .int .i64 s19, .int .i64 s20, .bool b1, .bool b2]
theorem run40 (a0 a1 a2 a3 a4 a5 a6 a7 a8 a9 a10 a11 a12 a13 a14 a15 a16 a17 a18 s0 s1 s2 s3 s4 s5 s6 s7 s8 s9 s10 s11 s12 s13 s14 s15 s16 s17 s18 s19 s20 : Int) (b1 b2 : Bool) : (evalVK Tryz.prog I4 3000 (.fn 4) [rowV a0 a1 a2 a3 a4 a5 a6 a7 a8 a9 a10 a11 a12 a13 a14 a15 a16 a17 a18, seekV s0 s1 s2 s3 s4 s5 s6 s7 s8 s9 s10 s11 s12 s13 s14 s15 s16 s17 s18 s19 s20 b1 b2, .int .i64 (.ofNat 0)] hL).map Prod.fst = some (.bool true) := by kernel_rfl
theorem run41 (a0 a1 a2 a3 a4 a5 a6 a7 a8 a9 a10 a11 a12 a13 a14 a15 a16 a17 a18 s0 s1 s2 s3 s4 s5 s6 s7 s8 s9 s10 s11 s12 s13 s14 s15 s16 s17 s18 s19 s20 : Int) (b1 b2 : Bool) : (evalVK Tryz.prog I4 3000 (.fn 4) [rowV a0 a1 a2 a3 a4 a5 a6 a7 a8 a9 a10 a11 a12 a13 a14 a15 a16 a17 a18, seekV s0 s1 s2 s3 s4 s5 s6 s7 s8 s9 s10 s11 s12 s13 s14 s15 s16 s17 s18 s19 s20 b1 b2, .int .i64 (.ofNat 1)] hL).map Prod.fst = some (.bool true) := by kernel_rfl
theorem run42 (a0 a1 a2 a3 a4 a5 a6 a7 a8 a9 a10 a11 a12 a13 a14 a15 a16 a17 a18 s0 s1 s2 s3 s4 s5 s6 s7 s8 s9 s10 s11 s12 s13 s14 s15 s16 s17 s18 s19 s20 : Int) (b1 b2 : Bool) : (evalVK Tryz.prog I4 3000 (.fn 4) [rowV a0 a1 a2 a3 a4 a5 a6 a7 a8 a9 a10 a11 a12 a13 a14 a15 a16 a17 a18, seekV s0 s1 s2 s3 s4 s5 s6 s7 s8 s9 s10 s11 s12 s13 s14 s15 s16 s17 s18 s19 s20 b1 b2, .int .i64 (.ofNat 2)] hL).map Prod.fst = some (.bool true) := by kernel_rfl
theorem run43 (a0 a1 a2 a3 a4 a5 a6 a7 a8 a9 a10 a11 a12 a13 a14 a15 a16 a17 a18 s0 s1 s2 s3 s4 s5 s6 s7 s8 s9 s10 s11 s12 s13 s14 s15 s16 s17 s18 s19 s20 : Int) (b1 b2 : Bool) : (evalVK Tryz.prog I4 3000 (.fn 4) [rowV a0 a1 a2 a3 a4 a5 a6 a7 a8 a9 a10 a11 a12 a13 a14 a15 a16 a17 a18, seekV s0 s1 s2 s3 s4 s5 s6 s7 s8 s9 s10 s11 s12 s13 s14 s15 s16 s17 s18 s19 s20 b1 b2, .int .i64 (.ofNat 3)] hL).map Prod.fst = some (.bool true) := by kernel_rfl
theorem run44 (a0 a1 a2 a3 a4 a5 a6 a7 a8 a9 a10 a11 a12 a13 a14 a15 a16 a17 a18 s0 s1 s2 s3 s4 s5 s6 s7 s8 s9 s10 s11 s12 s13 s14 s15 s16 s17 s18 s19 s20 : Int) (b1 b2 : Bool) : (evalVK Tryz.prog I4 3000 (.fn 4) [rowV a0 a1 a2 a3 a4 a5 a6 a7 a8 a9 a10 a11 a12 a13 a14 a15 a16 a17 a18, seekV s0 s1 s2 s3 s4 s5 s6 s7 s8 s9 s10 s11 s12 s13 s14 s15 s16 s17 s18 s19 s20 b1 b2, .int .i64 (.ofNat 4)] hL).map Prod.fst = some (.bool true) := by kernel_rfl
theorem run45 (a0 a1 a2 a3 a4 a5 a6 a7 a8 a9 a10 a11 a12 a13 a14 a15 a16 a17 a18 s0 s1 s2 s3 s4 s5 s6 s7 s8 s9 s10 s11 s12 s13 s14 s15 s16 s17 s18 s19 s20 : Int) (b1 b2 : Bool) : (evalVK Tryz.prog I4 3000 (.fn 4) [rowV a0 a1 a2 a3 a4 a5 a6 a7 a8 a9 a10 a11 a12 a13 a14 a15 a16 a17 a18, seekV s0 s1 s2 s3 s4 s5 s6 s7 s8 s9 s10 s11 s12 s13 s14 s15 s16 s17 s18 s19 s20 b1 b2, .int .i64 (.ofNat 5)] hL).map Prod.fst = some (.bool true) := by kernel_rfl
theorem run46 (a0 a1 a2 a3 a4 a5 a6 a7 a8 a9 a10 a11 a12 a13 a14 a15 a16 a17 a18 s0 s1 s2 s3 s4 s5 s6 s7 s8 s9 s10 s11 s12 s13 s14 s15 s16 s17 s18 s19 s20 : Int) (b1 b2 : Bool) : (evalVK Tryz.prog I4 3000 (.fn 4) [rowV a0 a1 a2 a3 a4 a5 a6 a7 a8 a9 a10 a11 a12 a13 a14 a15 a16 a17 a18, seekV s0 s1 s2 s3 s4 s5 s6 s7 s8 s9 s10 s11 s12 s13 s14 s15 s16 s17 s18 s19 s20 b1 b2, .int .i64 (.ofNat 6)] hL).map Prod.fst = some (.bool true) := by kernel_rfl
theorem run4p (a0 a1 a2 a3 a4 a5 a6 a7 a8 a9 a10 a11 a12 a13 a14 a15 a16 a17 a18 s0 s1 s2 s3 s4 s5 s6 s7 s8 s9 s10 s11 s12 s13 s14 s15 s16 s17 s18 s19 s20 : Int) (b1 b2 : Bool) (n : Nat) : (evalVK Tryz.prog I4 3000 (.fn 4) [rowV a0 a1 a2 a3 a4 a5 a6 a7 a8 a9 a10 a11 a12 a13 a14 a15 a16 a17 a18, seekV s0 s1 s2 s3 s4 s5 s6 s7 s8 s9 s10 s11 s12 s13 s14 s15 s16 s17 s18 s19 s20 b1 b2, .int .i64 (.ofNat (n + 7))] hL).map Prod.fst = some (.bool true) := by kernel_rfl
theorem run4m (a0 a1 a2 a3 a4 a5 a6 a7 a8 a9 a10 a11 a12 a13 a14 a15 a16 a17 a18 s0 s1 s2 s3 s4 s5 s6 s7 s8 s9 s10 s11 s12 s13 s14 s15 s16 s17 s18 s19 s20 : Int) (b1 b2 : Bool) : (evalVK Tryz.prog I4 3000 (.fn 4) [rowV a0 a1 a2 a3 a4 a5 a6 a7 a8 a9 a10 a11 a12 a13 a14 a15 a16 a17 a18, seekV s0 s1 s2 s3 s4 s5 s6 s7 s8 s9 s10 s11 s12 s13 s14 s15 s16 s17 s18 s19 s20 b1 b2, .int .i64 (.negSucc 0)] hL).map Prod.fst = some (.bool true) := by kernel_rfl
theorem run4n (a0 a1 a2 a3 a4 a5 a6 a7 a8 a9 a10 a11 a12 a13 a14 a15 a16 a17 a18 s0 s1 s2 s3 s4 s5 s6 s7 s8 s9 s10 s11 s12 s13 s14 s15 s16 s17 s18 s19 s20 : Int) (b1 b2 : Bool) (n : Nat) : (evalVK Tryz.prog I4 3000 (.fn 4) [rowV a0 a1 a2 a3 a4 a5 a6 a7 a8 a9 a10 a11 a12 a13 a14 a15 a16 a17 a18, seekV s0 s1 s2 s3 s4 s5 s6 s7 s8 s9 s10 s11 s12 s13 s14 s15 s16 s17 s18 s19 s20 b1 b2, .int .i64 (.negSucc (n + 1))] hL).map Prod.fst = some (.bool true) := by kernel_rfl
end Go.Abs.D1
