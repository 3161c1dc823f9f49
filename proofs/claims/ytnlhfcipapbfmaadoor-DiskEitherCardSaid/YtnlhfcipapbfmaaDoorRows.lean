/-
  NARROWER THAN 'FOR EVERY INPUT', by the rows' own cells (each row's printed sentence says how): DiskEither: laid · DiskSafe: laid · DiskFlaws: laid.
  DERIVED. THE GIVEN ROWS OF THIS SEAT. 3 by the template 'for every input the law returns true; each argument reads behind the call as it read before'; 0 by the template 'total and deterministic' (their statements: YtnlhfcipapbfmaaDoorTotals.lean).
  GIVEN WITH THE SEED: the statements are not yours to turn. If you find one false, say at which input.
  Laid BY PROGRAM, IN A SANDBOX (cutbox-rows.mjs): the forced cells as the released guide's own fill.sh prints them over the translation d97cdda876f37213… (all of the seat's roots in one cut). By AI agents, Wed Nov 11 2026. No macro, syntax, notation, axiom, sorry.
-/
import Derived.Test.YtnlhfcipapbfmaaDoorChecked
import GoSem.Claim
import GoSem.ClaimJoined
import GoSem.ClaimMapViews
import Derived.JoinedTies
import Derived.KernelRfl
namespace Go.Proofs.YtnlhfcipapbfmaaDoor
/- THE CELL 'sum', in the pinned program and in every row, IS THE sha256 OF THE DUMP (.gsa) THAT YtnlhfcipapbfmaaDoorProg.lean LOADS. Nothing in Lean hashes anything: it is a label: what it is worth is what the hold of that sum in a sandbox is worth. -/
noncomputable def Tryd.pinned : Pinned := { name := "ytnlhfcipapbfmaadoor", sum := "d97cdda876f372131e307bf322a4f645008d08a80d776b64e1a06a4d667b58bd", checked := Tryd.checked }
namespace Rows
def none {H : Type} : Left H := { results := [], args := [] }

/- WHAT THE LISTED PACKAGE-LEVEL VARIABLES READ AS WHEN THE CALL BEGINS. Each datum BY PROGRAM (the guide's laid-datum.mjs) off the statement by which the dump's own 'gosem.cut.vars' lays the variable. In a bare row this is a premise. The card (YtnlhfcipapbfmaaDoorCards.lean) ties it to the program's text. -/
def laid_junctionbox_junctionboxlaw02_all {H : Type} : DataW H := .slice [.lit (.bool true), .lit (.bool true), .lit (.bool true), .lit (.bool true), .lit (.bool true), .lit (.bool true), .lit (.bool true), .lit (.bool true)] []

/-- 'junctionboxlaw02.DiskEither': WHATEVER THE INPUT: true; the input reads as it did. -/
def diskEitherSpec : ChangeSpec := { name := "diskEither", fn := fun _ => fun
  | [d1, d2] => { results := [.lit (.bool true)], args := [d1, d2] }
  | _ => none }
def diskEitherRow : OpenClaim := { program := "ytnlhfcipapbfmaadoor", sum := "d97cdda876f372131e307bf322a4f645008d08a80d776b64e1a06a4d667b58bd", func := "junctionbox/junctionboxlaw02.DiskEither", spec := "diskEither", unfollowed := true, recurses := true, named := ["junctionbox/junctionboxlaw02.all"], apart := false, laid := [("junctionbox/junctionboxlaw02.all", laid_junctionbox_junctionboxlaw02_all)] }
def DiskEitherSaid : Prop := diskEitherRow.holds Tryd.pinned (OpenSpec.ofChange diskEitherSpec)

/-- ITS FALSE NEIGHBOUR: 'it returns false'. Refute it at one input. -/
def diskEitherWrong : ChangeSpec := { name := "diskEither", fn := fun _ => fun
  | [d1, d2] => { results := [.lit (.bool false)], args := [d1, d2] }
  | _ => none }
def DiskEitherWrongFalsely : Prop := diskEitherRow.holds Tryd.pinned (OpenSpec.ofChange diskEitherWrong)

/-- 'junctionboxlaw02.DiskSafe': WHATEVER THE INPUT: true; the input reads as it did. -/
def diskSafeSpec : ChangeSpec := { name := "diskSafe", fn := fun _ => fun
  | [d1, d2, d3] => { results := [.lit (.bool true)], args := [d1, d2, d3] }
  | _ => none }
def diskSafeRow : OpenClaim := { program := "ytnlhfcipapbfmaadoor", sum := "d97cdda876f372131e307bf322a4f645008d08a80d776b64e1a06a4d667b58bd", func := "junctionbox/junctionboxlaw02.DiskSafe", spec := "diskSafe", unfollowed := true, recurses := true, named := ["junctionbox/junctionboxlaw02.all"], apart := false, laid := [("junctionbox/junctionboxlaw02.all", laid_junctionbox_junctionboxlaw02_all)] }
def DiskSafeSaid : Prop := diskSafeRow.holds Tryd.pinned (OpenSpec.ofChange diskSafeSpec)

/-- ITS FALSE NEIGHBOUR: 'it returns false'. Refute it at one input. -/
def diskSafeWrong : ChangeSpec := { name := "diskSafe", fn := fun _ => fun
  | [d1, d2, d3] => { results := [.lit (.bool false)], args := [d1, d2, d3] }
  | _ => none }
def DiskSafeWrongFalsely : Prop := diskSafeRow.holds Tryd.pinned (OpenSpec.ofChange diskSafeWrong)

/-- 'junctionboxlaw02.DiskFlaws': WHATEVER THE INPUT: true; the input reads as it did. -/
def diskFlawsSpec : ChangeSpec := { name := "diskFlaws", fn := fun _ => fun
  | [d1, d2, d3] => { results := [.lit (.bool true)], args := [d1, d2, d3] }
  | _ => none }
def diskFlawsRow : OpenClaim := { program := "ytnlhfcipapbfmaadoor", sum := "d97cdda876f372131e307bf322a4f645008d08a80d776b64e1a06a4d667b58bd", func := "junctionbox/junctionboxlaw02.DiskFlaws", spec := "diskFlaws", unfollowed := true, recurses := true, named := ["junctionbox/junctionboxlaw02.all"], apart := false, laid := [("junctionbox/junctionboxlaw02.all", laid_junctionbox_junctionboxlaw02_all)] }
def DiskFlawsSaid : Prop := diskFlawsRow.holds Tryd.pinned (OpenSpec.ofChange diskFlawsSpec)

/-- ITS FALSE NEIGHBOUR: 'it returns false'. Refute it at one input. -/
def diskFlawsWrong : ChangeSpec := { name := "diskFlaws", fn := fun _ => fun
  | [d1, d2, d3] => { results := [.lit (.bool false)], args := [d1, d2, d3] }
  | _ => none }
def DiskFlawsWrongFalsely : Prop := diskFlawsRow.holds Tryd.pinned (OpenSpec.ofChange diskFlawsWrong)

/- THE SECOND FORM. 'bulk': how many values and letters a reading holds, each counted each time it is reached (what is shared counts as often as it is met; a slice's spare places count too). A statement '..UptoSaid' is the law's where the arguments, and the package variables that the reading takes, are together of bulk at most 1048576: NARROWER than '..Said'. Prove '..Said' where nothing that the law and all that it calls make is longer than what came in: it says more and counts as full. Else prove '..UptoSaid'. A law counts once. -/
mutual
def uptoBulk {H : Type} : DataW H → Nat
  | .lit (.string bytes) => bytes.length + 1
  | .lit _ => 1
  | .nil => 1
  | .ptr d => uptoBulk d + 1
  | .slice elems spare => uptoBulkAll elems + uptoBulkAll spare + 1
  | .agg parts => uptoBulkAll parts + 1
  | .iface _ d => uptoBulk d + 1
  | .map entries => uptoBulkEntries entries + 1
  | .held _ => 1
def uptoBulkAll {H : Type} : List (DataW H) → Nat
  | [] => 0
  | d :: r => uptoBulk d + uptoBulkAll r
def uptoBulkEntries {H : Type} : List (Lit × DataW H) → Nat
  | [] => 0
  | x :: r => uptoBulkEntry x + uptoBulkEntries r
def uptoBulkEntry {H : Type} : Lit × DataW H → Nat
  | (.string bytes, d) => bytes.length + uptoBulk d + 1
  | (_, d) => uptoBulk d + 1
 end
def uptoSmall : (H : Type) → List (DataW H) → Bool := fun _ ds => decide (uptoBulkAll ds ≤ 1048576)
def OpenSpec.upto (s : _root_.Go.ChangeSpec) : _root_.Go.OpenSpec := { _root_.Go.OpenSpec.ofChange s with cond := some uptoSmall }

/-- 'junctionboxlaw02.DiskEither', WHERE WHAT IT READS IS OF BULK AT MOST 1048576: true; the input reads as it did. -/
def diskEitherUptoRow : OpenClaim := { program := "ytnlhfcipapbfmaadoor", sum := "d97cdda876f372131e307bf322a4f645008d08a80d776b64e1a06a4d667b58bd", func := "junctionbox/junctionboxlaw02.DiskEither", spec := "diskEither", unfollowed := true, recurses := true, named := ["junctionbox/junctionboxlaw02.all"], apart := false, laid := [("junctionbox/junctionboxlaw02.all", laid_junctionbox_junctionboxlaw02_all)], narrowed := true }
def DiskEitherUptoSaid : Prop := diskEitherUptoRow.holds Tryd.pinned (OpenSpec.upto diskEitherSpec)

/-- 'junctionboxlaw02.DiskSafe', WHERE WHAT IT READS IS OF BULK AT MOST 1048576: true; the input reads as it did. -/
def diskSafeUptoRow : OpenClaim := { program := "ytnlhfcipapbfmaadoor", sum := "d97cdda876f372131e307bf322a4f645008d08a80d776b64e1a06a4d667b58bd", func := "junctionbox/junctionboxlaw02.DiskSafe", spec := "diskSafe", unfollowed := true, recurses := true, named := ["junctionbox/junctionboxlaw02.all"], apart := false, laid := [("junctionbox/junctionboxlaw02.all", laid_junctionbox_junctionboxlaw02_all)], narrowed := true }
def DiskSafeUptoSaid : Prop := diskSafeUptoRow.holds Tryd.pinned (OpenSpec.upto diskSafeSpec)

/-- 'junctionboxlaw02.DiskFlaws', WHERE WHAT IT READS IS OF BULK AT MOST 1048576: true; the input reads as it did. -/
def diskFlawsUptoRow : OpenClaim := { program := "ytnlhfcipapbfmaadoor", sum := "d97cdda876f372131e307bf322a4f645008d08a80d776b64e1a06a4d667b58bd", func := "junctionbox/junctionboxlaw02.DiskFlaws", spec := "diskFlaws", unfollowed := true, recurses := true, named := ["junctionbox/junctionboxlaw02.all"], apart := false, laid := [("junctionbox/junctionboxlaw02.all", laid_junctionbox_junctionboxlaw02_all)], narrowed := true }
def DiskFlawsUptoSaid : Prop := diskFlawsUptoRow.holds Tryd.pinned (OpenSpec.upto diskFlawsSpec)

end Rows
end Go.Proofs.YtnlhfcipapbfmaaDoor
