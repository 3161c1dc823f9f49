/- A long run, step by step: heaps that are laid down between the steps. -/
import Derived.Test.YtjimckjdkgbojaaGreatDoorFb1
import Derived.Test.YtjimckjdkgbojaaGreatDoorDt1
import Derived.Test.YtjimckjdkgbojaaGreatDoorDc3
import Derived.Test.YtjimckjdkgbojaaGreatDoorAr2
namespace Go.Abs.D1
open Go.Proofs
set_option maxRecDepth 100000
set_option linter.all false
noncomputable def dL {R : Type} : List Value → (List Value → R) → R
  | [], K => K []
  | v :: l, K => strictV v fun v => dL l fun l => K (v :: l)
noncomputable def dB {R : Type} : Option Blk → (Option Blk → R) → R
  | some (.cells cs own), K => dL cs.toList fun l => match own with
    | true => K (some (.cells ⟨l⟩ true))
    | false => K (some (.cells ⟨l⟩ false))
  | x, K => K x
noncomputable def dT {R : Type} : Tr → (Tr → R) → R
  | .nil, K => K .nil
  | .node l v r, K => dT l fun l => dB v fun v => dT r fun r => K (.node l v r)
theorem dL_eq {R : Type} : ∀ (l : List Value) (K : List Value → R), dL l K = K l
  | [], K => rfl
  | v :: l, K => by simp only [dL, strictV_eq, dL_eq l]
theorem dB_eq {R : Type} (x : Option Blk) (K : Option Blk → R) : dB x K = K x := by
  unfold dB
  split
  · rename_i cs own
    rw [dL_eq]
    cases own <;> rfl
  · rfl
theorem dT_eq {R : Type} : ∀ (t : Tr) (K : Tr → R), dT t K = K t
  | .nil, K => rfl
  | .node l v r, K => by simp only [dT, dT_eq l, dB_eq, dT_eq r]
noncomputable def stepK (I : Intr) (f : Nat) (args : List Value) (h : Hp) : Option (Value × Hp) :=
  dT h.tr fun t => match evalVK Tryz.prog I 2999 (.fn f) args ⟨t, h.size, h.ro⟩ with
    | some (v, h) => strictV v fun v => dT h.tr fun t => some (v, ⟨t, h.size, h.ro⟩)
    | none => none
theorem stepK_eq {I : Intr} {f : Nat} {args : List Value} {h : Hp} : stepK I f args h = evalV Tryz.prog I 2999 (.fn f) args.toArray h := by
  unfold stepK
  rw [dT_eq, evalVK_eq]
  cases evalV Tryz.prog I 2999 (.fn f) args.toArray h with
  | none => rfl
  | some x => simp only [strictV_eq, dT_eq]
/-- Blocks from number b on. -/
def runB (h : Hp) : Nat → List (Option Blk) → Hp
  | _, [] => h
  | b, x :: l => runB (h.setB b x) (b + 1) l
/-- A heap with some blocks other than they were, and with new ones. -/
def ext (h : Hp) (n : Nat) (l : List (Nat × List (Option Blk))) : Hp := { l.foldl (fun h x => runB h x.1 x.2) h with size := n }
/-- The codes of a function's ranges over functions. -/
def rfs : Code → List (Code × Code)
  | .seq x y => rfs x ++ rfs y
  | .cond _ x y => rfs x ++ rfs y
  | .block _ c => rfs c
  | .loop c => rfs c
  | .scope c => rfs c
  | .rangeFunc _ _ a b => (a, b) :: (rfs a ++ rfs b)
  | _ => []
noncomputable def lp (f k : Nat) : Code × Code := match Tryz.prog.funcs[f]? with
  | some fn => match fn.body with
    | some c => (rfs c).getD k (.skip, .skip)
    | none => (.skip, .skip)
  | none => (.skip, .skip)
abbrev vw (n : Nat) : Value := .int .u32 n
abbrev vi (n : Nat) : Value := .int .i64 n
abbrev vu (n : Nat) : Value := .int .u64 n
abbrev vb (n : Nat) : Value := .int .u8 n
abbrev vp (b o : Nat) : Value := .pointer (some ⟨b, o, none⟩)
abbrev vs (b o n c : Nat) : Value := .slice (some ⟨b, o, none⟩) n c
abbrev vn : Value := .slice none 0 0
abbrev vt : Value := .tuple #[]
abbrev bc (l : List Value) : Option Blk := some (.cells ⟨l⟩ true)
abbrev bd (b : Bool) : Option Blk := some (.defd b)
end Go.Abs.D1
