/-
  DERIVED. GIVEN WITH THE SEED: THE CARDS: each row of YtckodcbgpffimaaGreatDoorRows.lean that lists a variable, with what it lists TIED to the program's text (the seventh form; the later family's looks); each row that meets fmt, with fmt's text TOLD by the authors' own Lean function (tested against real Go, not proved from fmt's source: count such statements apart). THE CARD IS WHAT COUNTS. Prove the row's statement (the work); the ties are given (YtckodcbgpffimaaGreatDoorTie.lean); close each card by the builder's one call (the guide's Derived/Test/ToyasCard.lean, 'card_holds'). Laid BY PROGRAM, IN A SANDBOX (cutbox-door.mjs). By AI agents, Wed Nov 11 2026. No macro, syntax, notation, axiom, sorry.
-/
import Derived.Test.YtckodcbgpffimaaGreatDoorRows
import GoSem.ClaimSeven
namespace Go.Proofs.YtckodcbgpffimaaGreatDoor
namespace Rows

/-- THE TIED CARD OF 'butterylaw22.ShardSwept'. -/
def shardSweptCard : Claim7 := { stood := { row := shardSweptRow, standIns := [], harness := (true, "e0e1ce6042ff1bfa1a480162aa346abcbf611a3d1cef3ea3ba88b50f2423dcac"), looks := true }, kinds := [], alts := [], laidByText := true, laidKinds := [.data, .handle, .pinned], laidTests := true, laidLooks := .later }
def ShardSweptCardSaid : Prop := Claim7.holds Tryz.pinned (.plain (OpenSpec.ofChange shardSweptSpec)) shardSweptCard

/-- THE TIED CARD OF 'butterylaw22.ShardPlays'. -/
def shardPlaysCard : Claim7 := { stood := { row := shardPlaysRow, standIns := [], harness := (true, "e0e1ce6042ff1bfa1a480162aa346abcbf611a3d1cef3ea3ba88b50f2423dcac"), looks := true }, kinds := [], alts := [], laidByText := true, laidKinds := [.data, .handle, .pinned], laidTests := true, laidLooks := .later }
def ShardPlaysCardSaid : Prop := Claim7.holds Tryz.pinned (.plain (OpenSpec.ofChange shardPlaysSpec)) shardPlaysCard

/-- THE TIED CARD OF 'butterylaw22.ShardCrashes'. -/
def shardCrashesCard : Claim7 := { stood := { row := shardCrashesRow, standIns := [], harness := (true, "e0e1ce6042ff1bfa1a480162aa346abcbf611a3d1cef3ea3ba88b50f2423dcac"), looks := true }, kinds := [], alts := [], laidByText := true, laidKinds := [.data, .handle, .pinned], laidTests := true, laidLooks := .later }
def ShardCrashesCardSaid : Prop := Claim7.holds Tryz.pinned (.plain (OpenSpec.ofChange shardCrashesSpec)) shardCrashesCard

/-- THE TIED CARD OF 'butterylaw22.ShardOne'. -/
def shardOneCard : Claim7 := { stood := { row := shardOneRow, standIns := [], harness := (true, "e0e1ce6042ff1bfa1a480162aa346abcbf611a3d1cef3ea3ba88b50f2423dcac"), looks := true }, kinds := [], alts := [], laidByText := true, laidKinds := [.data, .handle, .pinned], laidTests := true, laidLooks := .later }
def ShardOneCardSaid : Prop := Claim7.holds Tryz.pinned (.plain (OpenSpec.ofChange shardOneSpec)) shardOneCard

/-- THE SECOND FORM's CARD OF 'butterylaw22.ShardSwept'. -/
def shardSweptUptoCard : Claim7 := { stood := { row := shardSweptUptoRow, standIns := [], harness := (true, "e0e1ce6042ff1bfa1a480162aa346abcbf611a3d1cef3ea3ba88b50f2423dcac"), looks := true }, kinds := [], alts := [], laidByText := true, laidKinds := [.data, .handle, .pinned], laidTests := true, laidLooks := .later }
def ShardSweptUptoCardSaid : Prop := Claim7.holds Tryz.pinned (.plain (OpenSpec.upto shardSweptSpec)) shardSweptUptoCard

/-- THE SECOND FORM's CARD OF 'butterylaw22.ShardPlays'. -/
def shardPlaysUptoCard : Claim7 := { stood := { row := shardPlaysUptoRow, standIns := [], harness := (true, "e0e1ce6042ff1bfa1a480162aa346abcbf611a3d1cef3ea3ba88b50f2423dcac"), looks := true }, kinds := [], alts := [], laidByText := true, laidKinds := [.data, .handle, .pinned], laidTests := true, laidLooks := .later }
def ShardPlaysUptoCardSaid : Prop := Claim7.holds Tryz.pinned (.plain (OpenSpec.upto shardPlaysSpec)) shardPlaysUptoCard

/-- THE SECOND FORM's CARD OF 'butterylaw22.ShardCrashes'. -/
def shardCrashesUptoCard : Claim7 := { stood := { row := shardCrashesUptoRow, standIns := [], harness := (true, "e0e1ce6042ff1bfa1a480162aa346abcbf611a3d1cef3ea3ba88b50f2423dcac"), looks := true }, kinds := [], alts := [], laidByText := true, laidKinds := [.data, .handle, .pinned], laidTests := true, laidLooks := .later }
def ShardCrashesUptoCardSaid : Prop := Claim7.holds Tryz.pinned (.plain (OpenSpec.upto shardCrashesSpec)) shardCrashesUptoCard

/-- THE SECOND FORM's CARD OF 'butterylaw22.ShardOne'. -/
def shardOneUptoCard : Claim7 := { stood := { row := shardOneUptoRow, standIns := [], harness := (true, "e0e1ce6042ff1bfa1a480162aa346abcbf611a3d1cef3ea3ba88b50f2423dcac"), looks := true }, kinds := [], alts := [], laidByText := true, laidKinds := [.data, .handle, .pinned], laidTests := true, laidLooks := .later }
def ShardOneUptoCardSaid : Prop := Claim7.holds Tryz.pinned (.plain (OpenSpec.upto shardOneSpec)) shardOneUptoCard
end Rows
end Go.Proofs.YtckodcbgpffimaaGreatDoor
