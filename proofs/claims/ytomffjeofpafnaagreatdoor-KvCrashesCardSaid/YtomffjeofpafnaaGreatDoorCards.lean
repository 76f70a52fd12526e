/-
  DERIVED. GIVEN WITH THE SEED: THE CARDS: each row of YtomffjeofpafnaaGreatDoorRows.lean that lists a variable, with what it lists TIED to the program's text (the seventh form; the later family's looks); each row that meets fmt, with fmt's text TOLD by the authors' own Lean function (tested against real Go, not proved from fmt's source: count such statements apart). THE CARD IS WHAT COUNTS. Prove the row's statement (the work); the ties are given (YtomffjeofpafnaaGreatDoorTie.lean); close each card by the builder's one call (the guide's Derived/Test/ToyasCard.lean, 'card_holds'). Laid BY PROGRAM, IN A SANDBOX (cutbox-door.mjs). By AI agents, Wed Nov 11 2026. No macro, syntax, notation, axiom, sorry.
-/
import Derived.Test.YtomffjeofpafnaaGreatDoorRows
import GoSem.ClaimSeven
namespace Go.Proofs.YtomffjeofpafnaaGreatDoor
namespace Rows

/-- THE TIED CARD OF 'butterylaw07.BtreeApart'. -/
def btreeApartCard : Claim7 := { stood := { row := btreeApartRow, standIns := [], harness := (true, "c4602fe68c207a7ab803b45538b6b110792f4b0ff9ed965a10f202c5d69dc557"), looks := false }, kinds := [], alts := [], laidByText := true, laidKinds := [.data, .pinned], laidTests := true, laidLooks := .later }
def BtreeApartCardSaid : Prop := Claim7.holds Tryz.pinned (.plain (OpenSpec.ofChange btreeApartSpec)) btreeApartCard

/-- THE TIED CARD OF 'butterylaw07.BtreePlays'. -/
def btreePlaysCard : Claim7 := { stood := { row := btreePlaysRow, standIns := [], harness := (true, "c4602fe68c207a7ab803b45538b6b110792f4b0ff9ed965a10f202c5d69dc557"), looks := false }, kinds := [], alts := [], laidByText := true, laidKinds := [.data, .pinned], laidTests := true, laidLooks := .later }
def BtreePlaysCardSaid : Prop := Claim7.holds Tryz.pinned (.plain (OpenSpec.ofChange btreePlaysSpec)) btreePlaysCard

/-- THE TIED CARD OF 'butterylaw07.BtreeCrashes'. -/
def btreeCrashesCard : Claim7 := { stood := { row := btreeCrashesRow, standIns := [], harness := (true, "c4602fe68c207a7ab803b45538b6b110792f4b0ff9ed965a10f202c5d69dc557"), looks := false }, kinds := [], alts := [], laidByText := true, laidKinds := [.data, .pinned], laidTests := true, laidLooks := .later }
def BtreeCrashesCardSaid : Prop := Claim7.holds Tryz.pinned (.plain (OpenSpec.ofChange btreeCrashesSpec)) btreeCrashesCard

/-- THE TIED CARD OF 'butterylaw08.KvApart'. -/
def kvApartCard : Claim7 := { stood := { row := kvApartRow, standIns := [], harness := (true, "c4602fe68c207a7ab803b45538b6b110792f4b0ff9ed965a10f202c5d69dc557"), looks := false }, kinds := [], alts := [], laidByText := true, laidKinds := [.data, .pinned], laidTests := true, laidLooks := .later }
def KvApartCardSaid : Prop := Claim7.holds Tryz.pinned (.plain (OpenSpec.ofChange kvApartSpec)) kvApartCard

/-- THE TIED CARD OF 'butterylaw08.KvCrashes'. -/
def kvCrashesCard : Claim7 := { stood := { row := kvCrashesRow, standIns := [], harness := (true, "c4602fe68c207a7ab803b45538b6b110792f4b0ff9ed965a10f202c5d69dc557"), looks := false }, kinds := [], alts := [], laidByText := true, laidKinds := [.data, .pinned], laidTests := true, laidLooks := .later }
def KvCrashesCardSaid : Prop := Claim7.holds Tryz.pinned (.plain (OpenSpec.ofChange kvCrashesSpec)) kvCrashesCard

/-- THE SECOND FORM's CARD OF 'butterylaw07.BtreeApart'. -/
def btreeApartUptoCard : Claim7 := { stood := { row := btreeApartUptoRow, standIns := [], harness := (true, "c4602fe68c207a7ab803b45538b6b110792f4b0ff9ed965a10f202c5d69dc557"), looks := false }, kinds := [], alts := [], laidByText := true, laidKinds := [.data, .pinned], laidTests := true, laidLooks := .later }
def BtreeApartUptoCardSaid : Prop := Claim7.holds Tryz.pinned (.plain (OpenSpec.upto btreeApartSpec)) btreeApartUptoCard

/-- THE SECOND FORM's CARD OF 'butterylaw07.BtreePlays'. -/
def btreePlaysUptoCard : Claim7 := { stood := { row := btreePlaysUptoRow, standIns := [], harness := (true, "c4602fe68c207a7ab803b45538b6b110792f4b0ff9ed965a10f202c5d69dc557"), looks := false }, kinds := [], alts := [], laidByText := true, laidKinds := [.data, .pinned], laidTests := true, laidLooks := .later }
def BtreePlaysUptoCardSaid : Prop := Claim7.holds Tryz.pinned (.plain (OpenSpec.upto btreePlaysSpec)) btreePlaysUptoCard

/-- THE SECOND FORM's CARD OF 'butterylaw07.BtreeCrashes'. -/
def btreeCrashesUptoCard : Claim7 := { stood := { row := btreeCrashesUptoRow, standIns := [], harness := (true, "c4602fe68c207a7ab803b45538b6b110792f4b0ff9ed965a10f202c5d69dc557"), looks := false }, kinds := [], alts := [], laidByText := true, laidKinds := [.data, .pinned], laidTests := true, laidLooks := .later }
def BtreeCrashesUptoCardSaid : Prop := Claim7.holds Tryz.pinned (.plain (OpenSpec.upto btreeCrashesSpec)) btreeCrashesUptoCard

/-- THE SECOND FORM's CARD OF 'butterylaw08.KvApart'. -/
def kvApartUptoCard : Claim7 := { stood := { row := kvApartUptoRow, standIns := [], harness := (true, "c4602fe68c207a7ab803b45538b6b110792f4b0ff9ed965a10f202c5d69dc557"), looks := false }, kinds := [], alts := [], laidByText := true, laidKinds := [.data, .pinned], laidTests := true, laidLooks := .later }
def KvApartUptoCardSaid : Prop := Claim7.holds Tryz.pinned (.plain (OpenSpec.upto kvApartSpec)) kvApartUptoCard

/-- THE SECOND FORM's CARD OF 'butterylaw08.KvCrashes'. -/
def kvCrashesUptoCard : Claim7 := { stood := { row := kvCrashesUptoRow, standIns := [], harness := (true, "c4602fe68c207a7ab803b45538b6b110792f4b0ff9ed965a10f202c5d69dc557"), looks := false }, kinds := [], alts := [], laidByText := true, laidKinds := [.data, .pinned], laidTests := true, laidLooks := .later }
def KvCrashesUptoCardSaid : Prop := Claim7.holds Tryz.pinned (.plain (OpenSpec.upto kvCrashesSpec)) kvCrashesUptoCard
end Rows
end Go.Proofs.YtomffjeofpafnaaGreatDoor
