/-
  DERIVED. GIVEN WITH THE SEED: THE CARDS: each row of YtpinmfjiiapgfaaGreatDoorRows.lean that lists a variable, with what it lists TIED to the program's text (the seventh form; the later family's looks); each row that meets fmt, with fmt's text TOLD by the authors' own Lean function (tested against real Go, not proved from fmt's source: count such statements apart). THE CARD IS WHAT COUNTS. Prove the row's statement (the work); the ties are given (YtpinmfjiiapgfaaGreatDoorTie.lean); close each card by the builder's one call (the guide's Derived/Test/ToyasCard.lean, 'card_holds'). Laid BY PROGRAM, IN A SANDBOX (cutbox-door.mjs). By AI agents, Wed Nov 11 2026. No macro, syntax, notation, axiom, sorry.
-/
import Derived.Test.YtpinmfjiiapgfaaGreatDoorRows
import GoSem.ClaimSeven
namespace Go.Proofs.YtpinmfjiiapgfaaGreatDoor
namespace Rows

/-- THE TIED CARD OF 'butterylaw18.KeepNames'. -/
def keepNamesCard : Claim7 := { stood := { row := keepNamesRow, standIns := [], harness := (true, "18266d1b01bc4dedcd37aea74bc9b7e7b3d6c81d60584171903e729c7e8dc0b9"), looks := false }, kinds := [], alts := [], laidByText := true, laidKinds := [.data, .pinned], laidTests := true, laidLooks := .later }
def KeepNamesCardSaid : Prop := Claim7.holds Tryz.pinned (.plain (OpenSpec.ofChange keepNamesSpec)) keepNamesCard

/-- THE SECOND FORM's CARD OF 'butterylaw18.KeepNames'. -/
def keepNamesUptoCard : Claim7 := { stood := { row := keepNamesUptoRow, standIns := [], harness := (true, "18266d1b01bc4dedcd37aea74bc9b7e7b3d6c81d60584171903e729c7e8dc0b9"), looks := false }, kinds := [], alts := [], laidByText := true, laidKinds := [.data, .pinned], laidTests := true, laidLooks := .later }
def KeepNamesUptoCardSaid : Prop := Claim7.holds Tryz.pinned (.plain (OpenSpec.upto keepNamesSpec)) keepNamesUptoCard
end Rows
end Go.Proofs.YtpinmfjiiapgfaaGreatDoor
