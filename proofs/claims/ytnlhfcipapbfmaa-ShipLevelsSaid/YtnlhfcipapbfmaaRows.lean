/-
  No cell of these rows narrows 'for every input' (looked for: loops, veiled, ifaces, maps, wideKeys, modest, calm, conditions, laid).
  DERIVED. THE GIVEN ROWS OF THIS SEAT. 9 by the template 'for every input the law returns true; each argument reads behind the call as it read before'; 0 by the template 'total and deterministic' (their statements: YtnlhfcipapbfmaaTotals.lean).
  GIVEN WITH THE SEED: the statements are not yours to turn. If you find one false, say at which input.
  Laid BY PROGRAM, IN A SANDBOX (cutbox-rows.mjs): the forced cells as the released guide's own fill.sh prints them over the translation 03e75a5040f37297… (all of the seat's roots in one cut). By AI agents, Wed Nov 11 2026. No macro, syntax, notation, axiom, sorry.
-/
import Derived.Test.YtnlhfcipapbfmaaChecked
import GoSem.Claim
import GoSem.ClaimJoined
import GoSem.ClaimMapViews
import Derived.JoinedTies
import Derived.KernelRfl
namespace Go.Proofs.Ytnlhfcipapbfmaa
/- THE CELL 'sum', in the pinned program and in every row, IS THE sha256 OF THE DUMP (.gsa) THAT YtnlhfcipapbfmaaProg.lean LOADS. Nothing in Lean hashes anything: it is a label: what it is worth is what the hold of that sum in a sandbox is worth. -/
noncomputable def Try.pinned : Pinned := { name := "ytnlhfcipapbfmaa", sum := "03e75a5040f3729719b09997dbc408364365665f20dc08336174da00b9c5ee7b", checked := Try.checked }
namespace Rows
def none {H : Type} : Left H := { results := [], args := [] }

/-- 'junctionboxlaw14.ShipOffers': WHATEVER THE INPUT: true; the input reads as it did. -/
def shipOffersSpec : ChangeSpec := { name := "shipOffers", fn := fun _ => fun
  | [d1, d2] => { results := [.lit (.bool true)], args := [d1, d2] }
  | _ => none }
def shipOffersRow : OpenClaim := { program := "ytnlhfcipapbfmaa", sum := "03e75a5040f3729719b09997dbc408364365665f20dc08336174da00b9c5ee7b", func := "junctionbox/junctionboxlaw14.ShipOffers", spec := "shipOffers", unfollowed := true, recurses := true, apart := false }
def ShipOffersSaid : Prop := shipOffersRow.holds Try.pinned (OpenSpec.ofChange shipOffersSpec)

/-- ITS FALSE NEIGHBOUR: 'it returns false'. Refute it at one input. -/
def shipOffersWrong : ChangeSpec := { name := "shipOffers", fn := fun _ => fun
  | [d1, d2] => { results := [.lit (.bool false)], args := [d1, d2] }
  | _ => none }
def ShipOffersWrongFalsely : Prop := shipOffersRow.holds Try.pinned (OpenSpec.ofChange shipOffersWrong)

/-- 'junctionboxlaw14.ShipMatches': WHATEVER THE INPUT: true; the input reads as it did. -/
def shipMatchesSpec : ChangeSpec := { name := "shipMatches", fn := fun _ => fun
  | [d] => { results := [.lit (.bool true)], args := [d] }
  | _ => none }
def shipMatchesRow : OpenClaim := { program := "ytnlhfcipapbfmaa", sum := "03e75a5040f3729719b09997dbc408364365665f20dc08336174da00b9c5ee7b", func := "junctionbox/junctionboxlaw14.ShipMatches", spec := "shipMatches", unfollowed := true, recurses := true, apart := false }
def ShipMatchesSaid : Prop := shipMatchesRow.holds Try.pinned (OpenSpec.ofChange shipMatchesSpec)

/-- ITS FALSE NEIGHBOUR: 'it returns false'. Refute it at one input. -/
def shipMatchesWrong : ChangeSpec := { name := "shipMatches", fn := fun _ => fun
  | [d] => { results := [.lit (.bool false)], args := [d] }
  | _ => none }
def ShipMatchesWrongFalsely : Prop := shipMatchesRow.holds Try.pinned (OpenSpec.ofChange shipMatchesWrong)

/-- 'junctionboxlaw14.ShipAccepts': WHATEVER THE INPUT: true; the input reads as it did. -/
def shipAcceptsSpec : ChangeSpec := { name := "shipAccepts", fn := fun _ => fun
  | [d1, d2] => { results := [.lit (.bool true)], args := [d1, d2] }
  | _ => none }
def shipAcceptsRow : OpenClaim := { program := "ytnlhfcipapbfmaa", sum := "03e75a5040f3729719b09997dbc408364365665f20dc08336174da00b9c5ee7b", func := "junctionbox/junctionboxlaw14.ShipAccepts", spec := "shipAccepts", unfollowed := true, recurses := true, apart := false }
def ShipAcceptsSaid : Prop := shipAcceptsRow.holds Try.pinned (OpenSpec.ofChange shipAcceptsSpec)

/-- ITS FALSE NEIGHBOUR: 'it returns false'. Refute it at one input. -/
def shipAcceptsWrong : ChangeSpec := { name := "shipAccepts", fn := fun _ => fun
  | [d1, d2] => { results := [.lit (.bool false)], args := [d1, d2] }
  | _ => none }
def ShipAcceptsWrongFalsely : Prop := shipAcceptsRow.holds Try.pinned (OpenSpec.ofChange shipAcceptsWrong)

/-- 'junctionboxlaw14.ShipPuts': WHATEVER THE INPUT: true; the input reads as it did. -/
def shipPutsSpec : ChangeSpec := { name := "shipPuts", fn := fun _ => fun
  | [d1, d2] => { results := [.lit (.bool true)], args := [d1, d2] }
  | _ => none }
def shipPutsRow : OpenClaim := { program := "ytnlhfcipapbfmaa", sum := "03e75a5040f3729719b09997dbc408364365665f20dc08336174da00b9c5ee7b", func := "junctionbox/junctionboxlaw14.ShipPuts", spec := "shipPuts", unfollowed := true, recurses := true, apart := false }
def ShipPutsSaid : Prop := shipPutsRow.holds Try.pinned (OpenSpec.ofChange shipPutsSpec)

/-- ITS FALSE NEIGHBOUR: 'it returns false'. Refute it at one input. -/
def shipPutsWrong : ChangeSpec := { name := "shipPuts", fn := fun _ => fun
  | [d1, d2] => { results := [.lit (.bool false)], args := [d1, d2] }
  | _ => none }
def ShipPutsWrongFalsely : Prop := shipPutsRow.holds Try.pinned (OpenSpec.ofChange shipPutsWrong)

/-- 'junctionboxlaw02.DiskBuffer': WHATEVER THE INPUT: true; the input reads as it did. -/
def diskBufferSpec : ChangeSpec := { name := "diskBuffer", fn := fun _ => fun
  | [d] => { results := [.lit (.bool true)], args := [d] }
  | _ => none }
def diskBufferRow : OpenClaim := { program := "ytnlhfcipapbfmaa", sum := "03e75a5040f3729719b09997dbc408364365665f20dc08336174da00b9c5ee7b", func := "junctionbox/junctionboxlaw02.DiskBuffer", spec := "diskBuffer", unfollowed := true, recurses := true, apart := false }
def DiskBufferSaid : Prop := diskBufferRow.holds Try.pinned (OpenSpec.ofChange diskBufferSpec)

/-- ITS FALSE NEIGHBOUR: 'it returns false'. Refute it at one input. -/
def diskBufferWrong : ChangeSpec := { name := "diskBuffer", fn := fun _ => fun
  | [d] => { results := [.lit (.bool false)], args := [d] }
  | _ => none }
def DiskBufferWrongFalsely : Prop := diskBufferRow.holds Try.pinned (OpenSpec.ofChange diskBufferWrong)

/-- 'junctionboxlaw14.ShipLevels': WHATEVER THE INPUT: true; the input reads as it did. -/
def shipLevelsSpec : ChangeSpec := { name := "shipLevels", fn := fun _ => fun
  | [d1, d2] => { results := [.lit (.bool true)], args := [d1, d2] }
  | _ => none }
def shipLevelsRow : OpenClaim := { program := "ytnlhfcipapbfmaa", sum := "03e75a5040f3729719b09997dbc408364365665f20dc08336174da00b9c5ee7b", func := "junctionbox/junctionboxlaw14.ShipLevels", spec := "shipLevels", unfollowed := true, recurses := true, apart := false }
def ShipLevelsSaid : Prop := shipLevelsRow.holds Try.pinned (OpenSpec.ofChange shipLevelsSpec)

/-- ITS FALSE NEIGHBOUR: 'it returns false'. Refute it at one input. -/
def shipLevelsWrong : ChangeSpec := { name := "shipLevels", fn := fun _ => fun
  | [d1, d2] => { results := [.lit (.bool false)], args := [d1, d2] }
  | _ => none }
def ShipLevelsWrongFalsely : Prop := shipLevelsRow.holds Try.pinned (OpenSpec.ofChange shipLevelsWrong)

/-- 'junctionboxlaw02.DiskPlays': WHATEVER THE INPUT: true; the input reads as it did. -/
def diskPlaysSpec : ChangeSpec := { name := "diskPlays", fn := fun _ => fun
  | [d1, d2] => { results := [.lit (.bool true)], args := [d1, d2] }
  | _ => none }
def diskPlaysRow : OpenClaim := { program := "ytnlhfcipapbfmaa", sum := "03e75a5040f3729719b09997dbc408364365665f20dc08336174da00b9c5ee7b", func := "junctionbox/junctionboxlaw02.DiskPlays", spec := "diskPlays", unfollowed := true, recurses := true, apart := false }
def DiskPlaysSaid : Prop := diskPlaysRow.holds Try.pinned (OpenSpec.ofChange diskPlaysSpec)

/-- ITS FALSE NEIGHBOUR: 'it returns false'. Refute it at one input. -/
def diskPlaysWrong : ChangeSpec := { name := "diskPlays", fn := fun _ => fun
  | [d1, d2] => { results := [.lit (.bool false)], args := [d1, d2] }
  | _ => none }
def DiskPlaysWrongFalsely : Prop := diskPlaysRow.holds Try.pinned (OpenSpec.ofChange diskPlaysWrong)

/-- 'junctionboxlaw02.DiskForks': WHATEVER THE INPUT: true; the input reads as it did. -/
def diskForksSpec : ChangeSpec := { name := "diskForks", fn := fun _ => fun
  | [d1, d2, d3] => { results := [.lit (.bool true)], args := [d1, d2, d3] }
  | _ => none }
def diskForksRow : OpenClaim := { program := "ytnlhfcipapbfmaa", sum := "03e75a5040f3729719b09997dbc408364365665f20dc08336174da00b9c5ee7b", func := "junctionbox/junctionboxlaw02.DiskForks", spec := "diskForks", unfollowed := true, recurses := true, apart := false }
def DiskForksSaid : Prop := diskForksRow.holds Try.pinned (OpenSpec.ofChange diskForksSpec)

/-- ITS FALSE NEIGHBOUR: 'it returns false'. Refute it at one input. -/
def diskForksWrong : ChangeSpec := { name := "diskForks", fn := fun _ => fun
  | [d1, d2, d3] => { results := [.lit (.bool false)], args := [d1, d2, d3] }
  | _ => none }
def DiskForksWrongFalsely : Prop := diskForksRow.holds Try.pinned (OpenSpec.ofChange diskForksWrong)

/-- 'junctionboxlaw02.DiskSizes': WHATEVER THE INPUT: true; the input reads as it did. -/
def diskSizesSpec : ChangeSpec := { name := "diskSizes", fn := fun _ => fun
  | [d1, d2] => { results := [.lit (.bool true)], args := [d1, d2] }
  | _ => none }
def diskSizesRow : OpenClaim := { program := "ytnlhfcipapbfmaa", sum := "03e75a5040f3729719b09997dbc408364365665f20dc08336174da00b9c5ee7b", func := "junctionbox/junctionboxlaw02.DiskSizes", spec := "diskSizes", unfollowed := true, recurses := true, apart := false }
def DiskSizesSaid : Prop := diskSizesRow.holds Try.pinned (OpenSpec.ofChange diskSizesSpec)

/-- ITS FALSE NEIGHBOUR: 'it returns false'. Refute it at one input. -/
def diskSizesWrong : ChangeSpec := { name := "diskSizes", fn := fun _ => fun
  | [d1, d2] => { results := [.lit (.bool false)], args := [d1, d2] }
  | _ => none }
def DiskSizesWrongFalsely : Prop := diskSizesRow.holds Try.pinned (OpenSpec.ofChange diskSizesWrong)

/- THE SECOND FORM. 'bulk': how many values and letters a reading holds, each counted each time it is reached (what is shared counts as often as it is met; a slice's spare places count too). A statement '..UptoSaid' is the law's where the arguments, and the package variables that the reading takes, are together of bulk at most 1048576: NARROWER than '..Said'. Prove '..Said' where nothing that the law and all that it calls make is longer than what came in: it says more and counts as full. Else prove '..UptoSaid'. A law counts once. -/
mutual
def uptoBulk {H : Type} : DataW H → Nat
  | .lit (.string bytes) => bytes.length + 1
  | .lit _ => 1
  | .nil => 1
  | .ptr d => uptoBulk d + 1
  | .slice elems spare => uptoBulkAll elems + uptoBulkAll spare + 1
  | .agg parts => uptoBulkAll parts + 1
  | .iface _ d => uptoBulk d + 1
  | .map entries => uptoBulkEntries entries + 1
  | .held _ => 1
def uptoBulkAll {H : Type} : List (DataW H) → Nat
  | [] => 0
  | d :: r => uptoBulk d + uptoBulkAll r
def uptoBulkEntries {H : Type} : List (Lit × DataW H) → Nat
  | [] => 0
  | x :: r => uptoBulkEntry x + uptoBulkEntries r
def uptoBulkEntry {H : Type} : Lit × DataW H → Nat
  | (.string bytes, d) => bytes.length + uptoBulk d + 1
  | (_, d) => uptoBulk d + 1
 end
def uptoSmall : (H : Type) → List (DataW H) → Bool := fun _ ds => decide (uptoBulkAll ds ≤ 1048576)
def OpenSpec.upto (s : _root_.Go.ChangeSpec) : _root_.Go.OpenSpec := { _root_.Go.OpenSpec.ofChange s with cond := some uptoSmall }

/-- 'junctionboxlaw14.ShipOffers', WHERE WHAT IT READS IS OF BULK AT MOST 1048576: true; the input reads as it did. -/
def shipOffersUptoRow : OpenClaim := { program := "ytnlhfcipapbfmaa", sum := "03e75a5040f3729719b09997dbc408364365665f20dc08336174da00b9c5ee7b", func := "junctionbox/junctionboxlaw14.ShipOffers", spec := "shipOffers", unfollowed := true, recurses := true, apart := false, narrowed := true }
def ShipOffersUptoSaid : Prop := shipOffersUptoRow.holds Try.pinned (OpenSpec.upto shipOffersSpec)

/-- 'junctionboxlaw14.ShipMatches', WHERE WHAT IT READS IS OF BULK AT MOST 1048576: true; the input reads as it did. -/
def shipMatchesUptoRow : OpenClaim := { program := "ytnlhfcipapbfmaa", sum := "03e75a5040f3729719b09997dbc408364365665f20dc08336174da00b9c5ee7b", func := "junctionbox/junctionboxlaw14.ShipMatches", spec := "shipMatches", unfollowed := true, recurses := true, apart := false, narrowed := true }
def ShipMatchesUptoSaid : Prop := shipMatchesUptoRow.holds Try.pinned (OpenSpec.upto shipMatchesSpec)

/-- 'junctionboxlaw14.ShipAccepts', WHERE WHAT IT READS IS OF BULK AT MOST 1048576: true; the input reads as it did. -/
def shipAcceptsUptoRow : OpenClaim := { program := "ytnlhfcipapbfmaa", sum := "03e75a5040f3729719b09997dbc408364365665f20dc08336174da00b9c5ee7b", func := "junctionbox/junctionboxlaw14.ShipAccepts", spec := "shipAccepts", unfollowed := true, recurses := true, apart := false, narrowed := true }
def ShipAcceptsUptoSaid : Prop := shipAcceptsUptoRow.holds Try.pinned (OpenSpec.upto shipAcceptsSpec)

/-- 'junctionboxlaw14.ShipPuts', WHERE WHAT IT READS IS OF BULK AT MOST 1048576: true; the input reads as it did. -/
def shipPutsUptoRow : OpenClaim := { program := "ytnlhfcipapbfmaa", sum := "03e75a5040f3729719b09997dbc408364365665f20dc08336174da00b9c5ee7b", func := "junctionbox/junctionboxlaw14.ShipPuts", spec := "shipPuts", unfollowed := true, recurses := true, apart := false, narrowed := true }
def ShipPutsUptoSaid : Prop := shipPutsUptoRow.holds Try.pinned (OpenSpec.upto shipPutsSpec)

/-- 'junctionboxlaw02.DiskBuffer', WHERE WHAT IT READS IS OF BULK AT MOST 1048576: true; the input reads as it did. -/
def diskBufferUptoRow : OpenClaim := { program := "ytnlhfcipapbfmaa", sum := "03e75a5040f3729719b09997dbc408364365665f20dc08336174da00b9c5ee7b", func := "junctionbox/junctionboxlaw02.DiskBuffer", spec := "diskBuffer", unfollowed := true, recurses := true, apart := false, narrowed := true }
def DiskBufferUptoSaid : Prop := diskBufferUptoRow.holds Try.pinned (OpenSpec.upto diskBufferSpec)

/-- 'junctionboxlaw14.ShipLevels', WHERE WHAT IT READS IS OF BULK AT MOST 1048576: true; the input reads as it did. -/
def shipLevelsUptoRow : OpenClaim := { program := "ytnlhfcipapbfmaa", sum := "03e75a5040f3729719b09997dbc408364365665f20dc08336174da00b9c5ee7b", func := "junctionbox/junctionboxlaw14.ShipLevels", spec := "shipLevels", unfollowed := true, recurses := true, apart := false, narrowed := true }
def ShipLevelsUptoSaid : Prop := shipLevelsUptoRow.holds Try.pinned (OpenSpec.upto shipLevelsSpec)

/-- 'junctionboxlaw02.DiskPlays', WHERE WHAT IT READS IS OF BULK AT MOST 1048576: true; the input reads as it did. -/
def diskPlaysUptoRow : OpenClaim := { program := "ytnlhfcipapbfmaa", sum := "03e75a5040f3729719b09997dbc408364365665f20dc08336174da00b9c5ee7b", func := "junctionbox/junctionboxlaw02.DiskPlays", spec := "diskPlays", unfollowed := true, recurses := true, apart := false, narrowed := true }
def DiskPlaysUptoSaid : Prop := diskPlaysUptoRow.holds Try.pinned (OpenSpec.upto diskPlaysSpec)

/-- 'junctionboxlaw02.DiskForks', WHERE WHAT IT READS IS OF BULK AT MOST 1048576: true; the input reads as it did. -/
def diskForksUptoRow : OpenClaim := { program := "ytnlhfcipapbfmaa", sum := "03e75a5040f3729719b09997dbc408364365665f20dc08336174da00b9c5ee7b", func := "junctionbox/junctionboxlaw02.DiskForks", spec := "diskForks", unfollowed := true, recurses := true, apart := false, narrowed := true }
def DiskForksUptoSaid : Prop := diskForksUptoRow.holds Try.pinned (OpenSpec.upto diskForksSpec)

/-- 'junctionboxlaw02.DiskSizes', WHERE WHAT IT READS IS OF BULK AT MOST 1048576: true; the input reads as it did. -/
def diskSizesUptoRow : OpenClaim := { program := "ytnlhfcipapbfmaa", sum := "03e75a5040f3729719b09997dbc408364365665f20dc08336174da00b9c5ee7b", func := "junctionbox/junctionboxlaw02.DiskSizes", spec := "diskSizes", unfollowed := true, recurses := true, apart := false, narrowed := true }
def DiskSizesUptoSaid : Prop := diskSizesUptoRow.holds Try.pinned (OpenSpec.upto diskSizesSpec)

end Rows
end Go.Proofs.Ytnlhfcipapbfmaa
