/-
  No cell of these rows narrows 'for every input' (looked for: loops, veiled, ifaces, maps, wideKeys, modest, calm, conditions, laid).
  DERIVED. THE GIVEN ROWS OF THIS SEAT. 8 by the template 'for every input the law returns true; each argument reads behind the call as it read before'; 0 by the template 'total and deterministic' (their statements: YtgdbkohmdflckaaTotals.lean).
  GIVEN WITH THE SEED: the statements are not yours to turn. If you find one false, say at which input.
  Laid BY PROGRAM, IN A SANDBOX (cutbox-rows.mjs): the forced cells as the released guide's own fill.sh prints them over the translation b7a0a27571557149… (all of the seat's roots in one cut). By AI agents, Wed Nov 11 2026. No macro, syntax, notation, axiom, sorry.
-/
import Derived.Test.YtgdbkohmdflckaaChecked
import GoSem.Claim
import GoSem.ClaimJoined
import GoSem.ClaimMapViews
import Derived.JoinedTies
import Derived.KernelRfl
namespace Go.Proofs.Ytgdbkohmdflckaa
/- THE CELL 'sum', in the pinned program and in every row, IS THE sha256 OF THE DUMP (.gsa) THAT YtgdbkohmdflckaaProg.lean LOADS. Nothing in Lean hashes anything: it is a label: what it is worth is what the hold of that sum in a sandbox is worth. -/
noncomputable def Try.pinned : Pinned := { name := "ytgdbkohmdflckaa", sum := "b7a0a27571557149f315f5851f362b6119e3d7f6c75cf7c3773e17df41ec1d46", checked := Try.checked }
namespace Rows
def none {H : Type} : Left H := { results := [], args := [] }

/-- 'junctionboxlaw07.BitmapMatches': WHATEVER THE INPUT: true; the input reads as it did. -/
def bitmapMatchesSpec : ChangeSpec := { name := "bitmapMatches", fn := fun _ => fun
  | [d1, d2, d3] => { results := [.lit (.bool true)], args := [d1, d2, d3] }
  | _ => none }
def bitmapMatchesRow : OpenClaim := { program := "ytgdbkohmdflckaa", sum := "b7a0a27571557149f315f5851f362b6119e3d7f6c75cf7c3773e17df41ec1d46", func := "junctionbox/junctionboxlaw07.BitmapMatches", spec := "bitmapMatches", apart := false }
def BitmapMatchesSaid : Prop := bitmapMatchesRow.holds Try.pinned (OpenSpec.ofChange bitmapMatchesSpec)

/-- ITS FALSE NEIGHBOUR: 'it returns false'. Refute it at one input. -/
def bitmapMatchesWrong : ChangeSpec := { name := "bitmapMatches", fn := fun _ => fun
  | [d1, d2, d3] => { results := [.lit (.bool false)], args := [d1, d2, d3] }
  | _ => none }
def BitmapMatchesWrongFalsely : Prop := bitmapMatchesRow.holds Try.pinned (OpenSpec.ofChange bitmapMatchesWrong)

/-- 'junctionboxlaw07.BitmapLongest': WHATEVER THE INPUT: true; the input reads as it did. -/
def bitmapLongestSpec : ChangeSpec := { name := "bitmapLongest", fn := fun _ => fun
  | [d1, d2, d3] => { results := [.lit (.bool true)], args := [d1, d2, d3] }
  | _ => none }
def bitmapLongestRow : OpenClaim := { program := "ytgdbkohmdflckaa", sum := "b7a0a27571557149f315f5851f362b6119e3d7f6c75cf7c3773e17df41ec1d46", func := "junctionbox/junctionboxlaw07.BitmapLongest", spec := "bitmapLongest", apart := false }
def BitmapLongestSaid : Prop := bitmapLongestRow.holds Try.pinned (OpenSpec.ofChange bitmapLongestSpec)

/-- ITS FALSE NEIGHBOUR: 'it returns false'. Refute it at one input. -/
def bitmapLongestWrong : ChangeSpec := { name := "bitmapLongest", fn := fun _ => fun
  | [d1, d2, d3] => { results := [.lit (.bool false)], args := [d1, d2, d3] }
  | _ => none }
def BitmapLongestWrongFalsely : Prop := bitmapLongestRow.holds Try.pinned (OpenSpec.ofChange bitmapLongestWrong)

/-- 'junctionboxlaw13.LeaseTells': WHATEVER THE INPUT: true; the input reads as it did. -/
def leaseTellsSpec : ChangeSpec := { name := "leaseTells", fn := fun _ => fun
  | [d] => { results := [.lit (.bool true)], args := [d] }
  | _ => none }
def leaseTellsRow : OpenClaim := { program := "ytgdbkohmdflckaa", sum := "b7a0a27571557149f315f5851f362b6119e3d7f6c75cf7c3773e17df41ec1d46", func := "junctionbox/junctionboxlaw13.LeaseTells", spec := "leaseTells", unfollowed := true, recurses := true, apart := false }
def LeaseTellsSaid : Prop := leaseTellsRow.holds Try.pinned (OpenSpec.ofChange leaseTellsSpec)

/-- ITS FALSE NEIGHBOUR: 'it returns false'. Refute it at one input. -/
def leaseTellsWrong : ChangeSpec := { name := "leaseTells", fn := fun _ => fun
  | [d] => { results := [.lit (.bool false)], args := [d] }
  | _ => none }
def LeaseTellsWrongFalsely : Prop := leaseTellsRow.holds Try.pinned (OpenSpec.ofChange leaseTellsWrong)

/-- 'junctionboxlaw13.LeaseDoes': WHATEVER THE INPUT: true; the input reads as it did. -/
def leaseDoesSpec : ChangeSpec := { name := "leaseDoes", fn := fun _ => fun
  | [d1, d2] => { results := [.lit (.bool true)], args := [d1, d2] }
  | _ => none }
def leaseDoesRow : OpenClaim := { program := "ytgdbkohmdflckaa", sum := "b7a0a27571557149f315f5851f362b6119e3d7f6c75cf7c3773e17df41ec1d46", func := "junctionbox/junctionboxlaw13.LeaseDoes", spec := "leaseDoes", unfollowed := true, recurses := true, apart := false }
def LeaseDoesSaid : Prop := leaseDoesRow.holds Try.pinned (OpenSpec.ofChange leaseDoesSpec)

/-- ITS FALSE NEIGHBOUR: 'it returns false'. Refute it at one input. -/
def leaseDoesWrong : ChangeSpec := { name := "leaseDoes", fn := fun _ => fun
  | [d1, d2] => { results := [.lit (.bool false)], args := [d1, d2] }
  | _ => none }
def LeaseDoesWrongFalsely : Prop := leaseDoesRow.holds Try.pinned (OpenSpec.ofChange leaseDoesWrong)

/-- 'junctionboxlaw13.LeaseOne': WHATEVER THE INPUT: true; the input reads as it did. -/
def leaseOneSpec : ChangeSpec := { name := "leaseOne", fn := fun _ => fun
  | [d1, d2, d3] => { results := [.lit (.bool true)], args := [d1, d2, d3] }
  | _ => none }
def leaseOneRow : OpenClaim := { program := "ytgdbkohmdflckaa", sum := "b7a0a27571557149f315f5851f362b6119e3d7f6c75cf7c3773e17df41ec1d46", func := "junctionbox/junctionboxlaw13.LeaseOne", spec := "leaseOne", unfollowed := true, recurses := true, apart := false }
def LeaseOneSaid : Prop := leaseOneRow.holds Try.pinned (OpenSpec.ofChange leaseOneSpec)

/-- ITS FALSE NEIGHBOUR: 'it returns false'. Refute it at one input. -/
def leaseOneWrong : ChangeSpec := { name := "leaseOne", fn := fun _ => fun
  | [d1, d2, d3] => { results := [.lit (.bool false)], args := [d1, d2, d3] }
  | _ => none }
def LeaseOneWrongFalsely : Prop := leaseOneRow.holds Try.pinned (OpenSpec.ofChange leaseOneWrong)

/-- 'junctionboxlaw13.LeaseEnds': WHATEVER THE INPUT: true; the input reads as it did. -/
def leaseEndsSpec : ChangeSpec := { name := "leaseEnds", fn := fun _ => fun
  | [d1, d2] => { results := [.lit (.bool true)], args := [d1, d2] }
  | _ => none }
def leaseEndsRow : OpenClaim := { program := "ytgdbkohmdflckaa", sum := "b7a0a27571557149f315f5851f362b6119e3d7f6c75cf7c3773e17df41ec1d46", func := "junctionbox/junctionboxlaw13.LeaseEnds", spec := "leaseEnds", unfollowed := true, recurses := true, apart := false }
def LeaseEndsSaid : Prop := leaseEndsRow.holds Try.pinned (OpenSpec.ofChange leaseEndsSpec)

/-- ITS FALSE NEIGHBOUR: 'it returns false'. Refute it at one input. -/
def leaseEndsWrong : ChangeSpec := { name := "leaseEnds", fn := fun _ => fun
  | [d1, d2] => { results := [.lit (.bool false)], args := [d1, d2] }
  | _ => none }
def LeaseEndsWrongFalsely : Prop := leaseEndsRow.holds Try.pinned (OpenSpec.ofChange leaseEndsWrong)

/-- 'junctionboxlaw07.BitmapNodes': WHATEVER THE INPUT: true; the input reads as it did. -/
def bitmapNodesSpec : ChangeSpec := { name := "bitmapNodes", fn := fun _ => fun
  | [d1, d2] => { results := [.lit (.bool true)], args := [d1, d2] }
  | _ => none }
def bitmapNodesRow : OpenClaim := { program := "ytgdbkohmdflckaa", sum := "b7a0a27571557149f315f5851f362b6119e3d7f6c75cf7c3773e17df41ec1d46", func := "junctionbox/junctionboxlaw07.BitmapNodes", spec := "bitmapNodes", apart := false }
def BitmapNodesSaid : Prop := bitmapNodesRow.holds Try.pinned (OpenSpec.ofChange bitmapNodesSpec)

/-- ITS FALSE NEIGHBOUR: 'it returns false'. Refute it at one input. -/
def bitmapNodesWrong : ChangeSpec := { name := "bitmapNodes", fn := fun _ => fun
  | [d1, d2] => { results := [.lit (.bool false)], args := [d1, d2] }
  | _ => none }
def BitmapNodesWrongFalsely : Prop := bitmapNodesRow.holds Try.pinned (OpenSpec.ofChange bitmapNodesWrong)

/-- 'junctionboxlaw07.BitmapBack': WHATEVER THE INPUT: true; the input reads as it did. -/
def bitmapBackSpec : ChangeSpec := { name := "bitmapBack", fn := fun _ => fun
  | [d1, d2] => { results := [.lit (.bool true)], args := [d1, d2] }
  | _ => none }
def bitmapBackRow : OpenClaim := { program := "ytgdbkohmdflckaa", sum := "b7a0a27571557149f315f5851f362b6119e3d7f6c75cf7c3773e17df41ec1d46", func := "junctionbox/junctionboxlaw07.BitmapBack", spec := "bitmapBack", apart := false }
def BitmapBackSaid : Prop := bitmapBackRow.holds Try.pinned (OpenSpec.ofChange bitmapBackSpec)

/-- ITS FALSE NEIGHBOUR: 'it returns false'. Refute it at one input. -/
def bitmapBackWrong : ChangeSpec := { name := "bitmapBack", fn := fun _ => fun
  | [d1, d2] => { results := [.lit (.bool false)], args := [d1, d2] }
  | _ => none }
def BitmapBackWrongFalsely : Prop := bitmapBackRow.holds Try.pinned (OpenSpec.ofChange bitmapBackWrong)

/- THE SECOND FORM. 'bulk': how many values and letters a reading holds, each counted each time it is reached (what is shared counts as often as it is met; a slice's spare places count too). A statement '..UptoSaid' is the law's where the arguments, and the package variables that the reading takes, are together of bulk at most 1048576: NARROWER than '..Said'. Prove '..Said' where nothing that the law and all that it calls make is longer than what came in: it says more and counts as full. Else prove '..UptoSaid'. A law counts once. -/
mutual
def uptoBulk {H : Type} : DataW H → Nat
  | .lit (.string bytes) => bytes.length + 1
  | .lit _ => 1
  | .nil => 1
  | .ptr d => uptoBulk d + 1
  | .slice elems spare => uptoBulkAll elems + uptoBulkAll spare + 1
  | .agg parts => uptoBulkAll parts + 1
  | .iface _ d => uptoBulk d + 1
  | .map entries => uptoBulkEntries entries + 1
  | .held _ => 1
def uptoBulkAll {H : Type} : List (DataW H) → Nat
  | [] => 0
  | d :: r => uptoBulk d + uptoBulkAll r
def uptoBulkEntries {H : Type} : List (Lit × DataW H) → Nat
  | [] => 0
  | x :: r => uptoBulkEntry x + uptoBulkEntries r
def uptoBulkEntry {H : Type} : Lit × DataW H → Nat
  | (.string bytes, d) => bytes.length + uptoBulk d + 1
  | (_, d) => uptoBulk d + 1
 end
def uptoSmall : (H : Type) → List (DataW H) → Bool := fun _ ds => decide (uptoBulkAll ds ≤ 1048576)
def OpenSpec.upto (s : _root_.Go.ChangeSpec) : _root_.Go.OpenSpec := { _root_.Go.OpenSpec.ofChange s with cond := some uptoSmall }

/-- 'junctionboxlaw07.BitmapMatches', WHERE WHAT IT READS IS OF BULK AT MOST 1048576: true; the input reads as it did. -/
def bitmapMatchesUptoRow : OpenClaim := { program := "ytgdbkohmdflckaa", sum := "b7a0a27571557149f315f5851f362b6119e3d7f6c75cf7c3773e17df41ec1d46", func := "junctionbox/junctionboxlaw07.BitmapMatches", spec := "bitmapMatches", apart := false, narrowed := true }
def BitmapMatchesUptoSaid : Prop := bitmapMatchesUptoRow.holds Try.pinned (OpenSpec.upto bitmapMatchesSpec)

/-- 'junctionboxlaw07.BitmapLongest', WHERE WHAT IT READS IS OF BULK AT MOST 1048576: true; the input reads as it did. -/
def bitmapLongestUptoRow : OpenClaim := { program := "ytgdbkohmdflckaa", sum := "b7a0a27571557149f315f5851f362b6119e3d7f6c75cf7c3773e17df41ec1d46", func := "junctionbox/junctionboxlaw07.BitmapLongest", spec := "bitmapLongest", apart := false, narrowed := true }
def BitmapLongestUptoSaid : Prop := bitmapLongestUptoRow.holds Try.pinned (OpenSpec.upto bitmapLongestSpec)

/-- 'junctionboxlaw13.LeaseTells', WHERE WHAT IT READS IS OF BULK AT MOST 1048576: true; the input reads as it did. -/
def leaseTellsUptoRow : OpenClaim := { program := "ytgdbkohmdflckaa", sum := "b7a0a27571557149f315f5851f362b6119e3d7f6c75cf7c3773e17df41ec1d46", func := "junctionbox/junctionboxlaw13.LeaseTells", spec := "leaseTells", unfollowed := true, recurses := true, apart := false, narrowed := true }
def LeaseTellsUptoSaid : Prop := leaseTellsUptoRow.holds Try.pinned (OpenSpec.upto leaseTellsSpec)

/-- 'junctionboxlaw13.LeaseDoes', WHERE WHAT IT READS IS OF BULK AT MOST 1048576: true; the input reads as it did. -/
def leaseDoesUptoRow : OpenClaim := { program := "ytgdbkohmdflckaa", sum := "b7a0a27571557149f315f5851f362b6119e3d7f6c75cf7c3773e17df41ec1d46", func := "junctionbox/junctionboxlaw13.LeaseDoes", spec := "leaseDoes", unfollowed := true, recurses := true, apart := false, narrowed := true }
def LeaseDoesUptoSaid : Prop := leaseDoesUptoRow.holds Try.pinned (OpenSpec.upto leaseDoesSpec)

/-- 'junctionboxlaw13.LeaseOne', WHERE WHAT IT READS IS OF BULK AT MOST 1048576: true; the input reads as it did. -/
def leaseOneUptoRow : OpenClaim := { program := "ytgdbkohmdflckaa", sum := "b7a0a27571557149f315f5851f362b6119e3d7f6c75cf7c3773e17df41ec1d46", func := "junctionbox/junctionboxlaw13.LeaseOne", spec := "leaseOne", unfollowed := true, recurses := true, apart := false, narrowed := true }
def LeaseOneUptoSaid : Prop := leaseOneUptoRow.holds Try.pinned (OpenSpec.upto leaseOneSpec)

/-- 'junctionboxlaw13.LeaseEnds', WHERE WHAT IT READS IS OF BULK AT MOST 1048576: true; the input reads as it did. -/
def leaseEndsUptoRow : OpenClaim := { program := "ytgdbkohmdflckaa", sum := "b7a0a27571557149f315f5851f362b6119e3d7f6c75cf7c3773e17df41ec1d46", func := "junctionbox/junctionboxlaw13.LeaseEnds", spec := "leaseEnds", unfollowed := true, recurses := true, apart := false, narrowed := true }
def LeaseEndsUptoSaid : Prop := leaseEndsUptoRow.holds Try.pinned (OpenSpec.upto leaseEndsSpec)

/-- 'junctionboxlaw07.BitmapNodes', WHERE WHAT IT READS IS OF BULK AT MOST 1048576: true; the input reads as it did. -/
def bitmapNodesUptoRow : OpenClaim := { program := "ytgdbkohmdflckaa", sum := "b7a0a27571557149f315f5851f362b6119e3d7f6c75cf7c3773e17df41ec1d46", func := "junctionbox/junctionboxlaw07.BitmapNodes", spec := "bitmapNodes", apart := false, narrowed := true }
def BitmapNodesUptoSaid : Prop := bitmapNodesUptoRow.holds Try.pinned (OpenSpec.upto bitmapNodesSpec)

/-- 'junctionboxlaw07.BitmapBack', WHERE WHAT IT READS IS OF BULK AT MOST 1048576: true; the input reads as it did. -/
def bitmapBackUptoRow : OpenClaim := { program := "ytgdbkohmdflckaa", sum := "b7a0a27571557149f315f5851f362b6119e3d7f6c75cf7c3773e17df41ec1d46", func := "junctionbox/junctionboxlaw07.BitmapBack", spec := "bitmapBack", apart := false, narrowed := true }
def BitmapBackUptoSaid : Prop := bitmapBackUptoRow.holds Try.pinned (OpenSpec.upto bitmapBackSpec)

end Rows
end Go.Proofs.Ytgdbkohmdflckaa
