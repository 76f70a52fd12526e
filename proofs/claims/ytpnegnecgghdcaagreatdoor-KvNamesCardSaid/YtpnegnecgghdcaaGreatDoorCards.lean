/-
  DERIVED. GIVEN WITH THE SEED: THE CARDS: each row of YtpnegnecgghdcaaGreatDoorRows.lean that lists a variable, with what it lists TIED to the program's text (the seventh form; the later family's looks); each row that meets fmt, with fmt's text TOLD by the authors' own Lean function (tested against real Go, not proved from fmt's source: count such statements apart). THE CARD IS WHAT COUNTS. Prove the row's statement (the work); the ties are given (YtpnegnecgghdcaaGreatDoorTie.lean); close each card by the builder's one call (the guide's Derived/Test/ToyasCard.lean, 'card_holds'). Laid BY PROGRAM, IN A SANDBOX (cutbox-door.mjs). By AI agents, Wed Nov 11 2026. No macro, syntax, notation, axiom, sorry.
-/
import Derived.Test.YtpnegnecgghdcaaGreatDoorRows
import GoSem.ClaimSeven
namespace Go.Proofs.YtpnegnecgghdcaaGreatDoor
namespace Rows

/-- THE TIED CARD OF 'butterylaw07.BtreeNames'. -/
def btreeNamesCard : Claim7 := { stood := { row := btreeNamesRow, standIns := [], harness := (true, "bccc7bd1b4151d6f0904efaeb167127b940f5a9a35f02a74187ababe987be7aa"), looks := false }, kinds := [], alts := [], laidByText := true, laidKinds := [.data, .pinned], laidTests := true, laidLooks := .later }
def BtreeNamesCardSaid : Prop := Claim7.holds Tryz.pinned (.plain (OpenSpec.ofChange btreeNamesSpec)) btreeNamesCard

/-- THE TIED CARD OF 'butterylaw08.KvNames'. -/
def kvNamesCard : Claim7 := { stood := { row := kvNamesRow, standIns := [], harness := (true, "bccc7bd1b4151d6f0904efaeb167127b940f5a9a35f02a74187ababe987be7aa"), looks := false }, kinds := [], alts := [], laidByText := true, laidKinds := [.data, .pinned], laidTests := true, laidLooks := .later }
def KvNamesCardSaid : Prop := Claim7.holds Tryz.pinned (.plain (OpenSpec.ofChange kvNamesSpec)) kvNamesCard

/-- THE SECOND FORM's CARD OF 'butterylaw07.BtreeNames'. -/
def btreeNamesUptoCard : Claim7 := { stood := { row := btreeNamesUptoRow, standIns := [], harness := (true, "bccc7bd1b4151d6f0904efaeb167127b940f5a9a35f02a74187ababe987be7aa"), looks := false }, kinds := [], alts := [], laidByText := true, laidKinds := [.data, .pinned], laidTests := true, laidLooks := .later }
def BtreeNamesUptoCardSaid : Prop := Claim7.holds Tryz.pinned (.plain (OpenSpec.upto btreeNamesSpec)) btreeNamesUptoCard

/-- THE SECOND FORM's CARD OF 'butterylaw08.KvNames'. -/
def kvNamesUptoCard : Claim7 := { stood := { row := kvNamesUptoRow, standIns := [], harness := (true, "bccc7bd1b4151d6f0904efaeb167127b940f5a9a35f02a74187ababe987be7aa"), looks := false }, kinds := [], alts := [], laidByText := true, laidKinds := [.data, .pinned], laidTests := true, laidLooks := .later }
def KvNamesUptoCardSaid : Prop := Claim7.holds Tryz.pinned (.plain (OpenSpec.upto kvNamesSpec)) kvNamesUptoCard
end Rows
end Go.Proofs.YtpnegnecgghdcaaGreatDoor
