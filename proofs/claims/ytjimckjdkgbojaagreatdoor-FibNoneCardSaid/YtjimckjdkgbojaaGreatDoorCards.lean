/-
  DERIVED. GIVEN WITH THE SEED: THE CARDS: each row of YtjimckjdkgbojaaGreatDoorRows.lean that lists a variable, with what it lists TIED to the program's text (the seventh form; the later family's looks); each row that meets fmt, with fmt's text TOLD by the authors' own Lean function (tested against real Go, not proved from fmt's source: count such statements apart). THE CARD IS WHAT COUNTS. Prove the row's statement (the work); the ties are given (YtjimckjdkgbojaaGreatDoorTie.lean); close each card by the builder's one call (the guide's Derived/Test/ToyasCard.lean, 'card_holds'). Laid BY PROGRAM, IN A SANDBOX (cutbox-door.mjs). By AI agents, Wed Nov 11 2026. No macro, syntax, notation, axiom, sorry.
-/
import Derived.Test.YtjimckjdkgbojaaGreatDoorRows
import GoSem.ClaimSeven
namespace Go.Proofs.YtjimckjdkgbojaaGreatDoor
namespace Rows

/-- THE TIED CARD OF 'junctionboxlaw30.DumpWords'. -/
def dumpWordsCard : Claim7 := { stood := { row := dumpWordsRow, standIns := [], harness := (true, "e5c20abcf290c1167f9a8bcc850353f5fd149451dab35d78c07328d38367f74e"), looks := false }, kinds := [], alts := [], laidByText := true, laidKinds := [.data, .data], laidTests := true, laidLooks := .later }
def DumpWordsCardSaid : Prop := Claim7.holds Tryz.pinned (.plain (OpenSpec.ofChange dumpWordsSpec)) dumpWordsCard

/-- THE TIED CARD OF 'junctionboxlaw08.TrieNone'. -/
def trieNoneCard : Claim7 := { stood := { row := trieNoneRow, standIns := [], harness := (true, "e5c20abcf290c1167f9a8bcc850353f5fd149451dab35d78c07328d38367f74e"), looks := false }, kinds := [], alts := [], laidByText := true, laidKinds := [.data, .data], laidTests := true, laidLooks := .later }
def TrieNoneCardSaid : Prop := Claim7.holds Tryz.pinned (.plain (OpenSpec.ofChange trieNoneSpec)) trieNoneCard

/-- THE TIED CARD OF 'junctionboxlaw16.SweepNone'. -/
def sweepNoneCard : Claim7 := { stood := { row := sweepNoneRow, standIns := [], harness := (true, "e5c20abcf290c1167f9a8bcc850353f5fd149451dab35d78c07328d38367f74e"), looks := false }, kinds := [], alts := [], laidByText := true, laidKinds := [.data, .data], laidTests := true, laidLooks := .later }
def SweepNoneCardSaid : Prop := Claim7.holds Tryz.pinned (.plain (OpenSpec.ofChange sweepNoneSpec)) sweepNoneCard

/-- THE TIED CARD OF 'junctionboxlaw10.FibNone'. -/
def fibNoneCard : Claim7 := { stood := { row := fibNoneRow, standIns := [], harness := (true, "e5c20abcf290c1167f9a8bcc850353f5fd149451dab35d78c07328d38367f74e"), looks := false }, kinds := [], alts := [], laidByText := true, laidKinds := [.data, .data], laidTests := true, laidLooks := .later }
def FibNoneCardSaid : Prop := Claim7.holds Tryz.pinned (.plain (OpenSpec.ofChange fibNoneSpec)) fibNoneCard

/-- THE SECOND FORM's CARD OF 'junctionboxlaw30.DumpWords'. -/
def dumpWordsUptoCard : Claim7 := { stood := { row := dumpWordsUptoRow, standIns := [], harness := (true, "e5c20abcf290c1167f9a8bcc850353f5fd149451dab35d78c07328d38367f74e"), looks := false }, kinds := [], alts := [], laidByText := true, laidKinds := [.data, .data], laidTests := true, laidLooks := .later }
def DumpWordsUptoCardSaid : Prop := Claim7.holds Tryz.pinned (.plain (OpenSpec.upto dumpWordsSpec)) dumpWordsUptoCard

/-- THE SECOND FORM's CARD OF 'junctionboxlaw08.TrieNone'. -/
def trieNoneUptoCard : Claim7 := { stood := { row := trieNoneUptoRow, standIns := [], harness := (true, "e5c20abcf290c1167f9a8bcc850353f5fd149451dab35d78c07328d38367f74e"), looks := false }, kinds := [], alts := [], laidByText := true, laidKinds := [.data, .data], laidTests := true, laidLooks := .later }
def TrieNoneUptoCardSaid : Prop := Claim7.holds Tryz.pinned (.plain (OpenSpec.upto trieNoneSpec)) trieNoneUptoCard

/-- THE SECOND FORM's CARD OF 'junctionboxlaw16.SweepNone'. -/
def sweepNoneUptoCard : Claim7 := { stood := { row := sweepNoneUptoRow, standIns := [], harness := (true, "e5c20abcf290c1167f9a8bcc850353f5fd149451dab35d78c07328d38367f74e"), looks := false }, kinds := [], alts := [], laidByText := true, laidKinds := [.data, .data], laidTests := true, laidLooks := .later }
def SweepNoneUptoCardSaid : Prop := Claim7.holds Tryz.pinned (.plain (OpenSpec.upto sweepNoneSpec)) sweepNoneUptoCard

/-- THE SECOND FORM's CARD OF 'junctionboxlaw10.FibNone'. -/
def fibNoneUptoCard : Claim7 := { stood := { row := fibNoneUptoRow, standIns := [], harness := (true, "e5c20abcf290c1167f9a8bcc850353f5fd149451dab35d78c07328d38367f74e"), looks := false }, kinds := [], alts := [], laidByText := true, laidKinds := [.data, .data], laidTests := true, laidLooks := .later }
def FibNoneUptoCardSaid : Prop := Claim7.holds Tryz.pinned (.plain (OpenSpec.upto fibNoneSpec)) fibNoneUptoCard
end Rows
end Go.Proofs.YtjimckjdkgbojaaGreatDoor
