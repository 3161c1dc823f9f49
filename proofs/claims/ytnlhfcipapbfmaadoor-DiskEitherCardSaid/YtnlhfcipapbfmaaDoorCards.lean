/-
  DERIVED. GIVEN WITH THE SEED: THE CARDS: each row of YtnlhfcipapbfmaaDoorRows.lean that lists a variable, with what it lists TIED to the program's text (the seventh form; the later family's looks); each row that meets fmt, with fmt's text TOLD by the authors' own Lean function (tested against real Go, not proved from fmt's source: count such statements apart). THE CARD IS WHAT COUNTS. Prove the row's statement (the work); the ties are given (YtnlhfcipapbfmaaDoorTie.lean); close each card by the builder's one call (the guide's Derived/Test/ToyasCard.lean, 'card_holds'). Laid BY PROGRAM, IN A SANDBOX (cutbox-door.mjs). By AI agents, Wed Nov 11 2026. No macro, syntax, notation, axiom, sorry.
-/
import Derived.Test.YtnlhfcipapbfmaaDoorRows
import GoSem.ClaimSeven
namespace Go.Proofs.YtnlhfcipapbfmaaDoor
namespace Rows

/-- THE TIED CARD OF 'junctionboxlaw02.DiskEither'. -/
def diskEitherCard : Claim7 := { stood := { row := diskEitherRow, standIns := [], harness := (true, "43fd4cc3b5507d561afaf6b4142cc5f07a6540405af437d90aad1a8abd45ad5c"), looks := false }, kinds := [], alts := [], laidByText := true, laidKinds := [.widerDeep], laidTests := true, laidLooks := .later }
def DiskEitherCardSaid : Prop := Claim7.holds Tryd.pinned (.plain (OpenSpec.ofChange diskEitherSpec)) diskEitherCard

/-- THE TIED CARD OF 'junctionboxlaw02.DiskSafe'. -/
def diskSafeCard : Claim7 := { stood := { row := diskSafeRow, standIns := [], harness := (true, "43fd4cc3b5507d561afaf6b4142cc5f07a6540405af437d90aad1a8abd45ad5c"), looks := false }, kinds := [], alts := [], laidByText := true, laidKinds := [.widerDeep], laidTests := true, laidLooks := .later }
def DiskSafeCardSaid : Prop := Claim7.holds Tryd.pinned (.plain (OpenSpec.ofChange diskSafeSpec)) diskSafeCard

/-- THE TIED CARD OF 'junctionboxlaw02.DiskFlaws'. -/
def diskFlawsCard : Claim7 := { stood := { row := diskFlawsRow, standIns := [], harness := (true, "43fd4cc3b5507d561afaf6b4142cc5f07a6540405af437d90aad1a8abd45ad5c"), looks := false }, kinds := [], alts := [], laidByText := true, laidKinds := [.widerDeep], laidTests := true, laidLooks := .later }
def DiskFlawsCardSaid : Prop := Claim7.holds Tryd.pinned (.plain (OpenSpec.ofChange diskFlawsSpec)) diskFlawsCard

/-- THE SECOND FORM's CARD OF 'junctionboxlaw02.DiskEither'. -/
def diskEitherUptoCard : Claim7 := { stood := { row := diskEitherUptoRow, standIns := [], harness := (true, "43fd4cc3b5507d561afaf6b4142cc5f07a6540405af437d90aad1a8abd45ad5c"), looks := false }, kinds := [], alts := [], laidByText := true, laidKinds := [.widerDeep], laidTests := true, laidLooks := .later }
def DiskEitherUptoCardSaid : Prop := Claim7.holds Tryd.pinned (.plain (OpenSpec.upto diskEitherSpec)) diskEitherUptoCard

/-- THE SECOND FORM's CARD OF 'junctionboxlaw02.DiskSafe'. -/
def diskSafeUptoCard : Claim7 := { stood := { row := diskSafeUptoRow, standIns := [], harness := (true, "43fd4cc3b5507d561afaf6b4142cc5f07a6540405af437d90aad1a8abd45ad5c"), looks := false }, kinds := [], alts := [], laidByText := true, laidKinds := [.widerDeep], laidTests := true, laidLooks := .later }
def DiskSafeUptoCardSaid : Prop := Claim7.holds Tryd.pinned (.plain (OpenSpec.upto diskSafeSpec)) diskSafeUptoCard

/-- THE SECOND FORM's CARD OF 'junctionboxlaw02.DiskFlaws'. -/
def diskFlawsUptoCard : Claim7 := { stood := { row := diskFlawsUptoRow, standIns := [], harness := (true, "43fd4cc3b5507d561afaf6b4142cc5f07a6540405af437d90aad1a8abd45ad5c"), looks := false }, kinds := [], alts := [], laidByText := true, laidKinds := [.widerDeep], laidTests := true, laidLooks := .later }
def DiskFlawsUptoCardSaid : Prop := Claim7.holds Tryd.pinned (.plain (OpenSpec.upto diskFlawsSpec)) diskFlawsUptoCard
end Rows
end Go.Proofs.YtnlhfcipapbfmaaDoor
