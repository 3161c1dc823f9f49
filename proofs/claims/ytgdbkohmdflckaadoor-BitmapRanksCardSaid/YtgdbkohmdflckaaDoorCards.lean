/-
  DERIVED. GIVEN WITH THE SEED: THE CARDS: each row of YtgdbkohmdflckaaDoorRows.lean that lists a variable, with what it lists TIED to the program's text (the seventh form; the later family's looks); each row that meets fmt, with fmt's text TOLD by the authors' own Lean function (tested against real Go, not proved from fmt's source: count such statements apart). THE CARD IS WHAT COUNTS. Prove the row's statement (the work); the ties are given (YtgdbkohmdflckaaDoorTie.lean); close each card by the builder's one call (the guide's Derived/Test/ToyasCard.lean, 'card_holds'). Laid BY PROGRAM, IN A SANDBOX (cutbox-door.mjs). By AI agents, Wed Nov 11 2026. No macro, syntax, notation, axiom, sorry.
-/
import Derived.Test.YtgdbkohmdflckaaDoorRows
import GoSem.ClaimSeven
namespace Go.Proofs.YtgdbkohmdflckaaDoor
namespace Rows

/-- THE TIED CARD OF 'junctionboxlaw07.BitmapSets'. -/
def bitmapSetsCard : Claim7 := { stood := { row := bitmapSetsRow, standIns := [], harness := (true, "1da5cf696163763365eabd5b547456c1a449ebbcf214a471cba2a4b13f5d1100"), looks := false }, kinds := [], alts := [], laidByText := true, laidKinds := [.data], laidTests := true, laidLooks := .later }
def BitmapSetsCardSaid : Prop := Claim7.holds Tryd.pinned (.plain (OpenSpec.ofChange bitmapSetsSpec)) bitmapSetsCard

/-- THE TIED CARD OF 'junctionboxlaw07.BitmapRanks'. -/
def bitmapRanksCard : Claim7 := { stood := { row := bitmapRanksRow, standIns := [], harness := (true, "1da5cf696163763365eabd5b547456c1a449ebbcf214a471cba2a4b13f5d1100"), looks := false }, kinds := [], alts := [], laidByText := true, laidKinds := [.data], laidTests := true, laidLooks := .later }
def BitmapRanksCardSaid : Prop := Claim7.holds Tryd.pinned (.plain (OpenSpec.ofChange bitmapRanksSpec)) bitmapRanksCard

/-- THE SECOND FORM's CARD OF 'junctionboxlaw07.BitmapSets'. -/
def bitmapSetsUptoCard : Claim7 := { stood := { row := bitmapSetsUptoRow, standIns := [], harness := (true, "1da5cf696163763365eabd5b547456c1a449ebbcf214a471cba2a4b13f5d1100"), looks := false }, kinds := [], alts := [], laidByText := true, laidKinds := [.data], laidTests := true, laidLooks := .later }
def BitmapSetsUptoCardSaid : Prop := Claim7.holds Tryd.pinned (.plain (OpenSpec.upto bitmapSetsSpec)) bitmapSetsUptoCard

/-- THE SECOND FORM's CARD OF 'junctionboxlaw07.BitmapRanks'. -/
def bitmapRanksUptoCard : Claim7 := { stood := { row := bitmapRanksUptoRow, standIns := [], harness := (true, "1da5cf696163763365eabd5b547456c1a449ebbcf214a471cba2a4b13f5d1100"), looks := false }, kinds := [], alts := [], laidByText := true, laidKinds := [.data], laidTests := true, laidLooks := .later }
def BitmapRanksUptoCardSaid : Prop := Claim7.holds Tryd.pinned (.plain (OpenSpec.upto bitmapRanksSpec)) bitmapRanksUptoCard
end Rows
end Go.Proofs.YtgdbkohmdflckaaDoor
