/-
  DERIVED. GIVEN WITH THE SEED: THE CARDS: each row of YtfojoloiahhphaaGreatDoorRows.lean that lists a variable, with what it lists TIED to the program's text (the seventh form; the later family's looks); each row that meets fmt, with fmt's text TOLD by the authors' own Lean function (tested against real Go, not proved from fmt's source: count such statements apart). THE CARD IS WHAT COUNTS. Prove the row's statement (the work); the ties are given (YtfojoloiahhphaaGreatDoorTie.lean); close each card by the builder's one call (the guide's Derived/Test/ToyasCard.lean, 'card_holds'). Laid BY PROGRAM, IN A SANDBOX (cutbox-door.mjs). By AI agents, Wed Nov 11 2026. No macro, syntax, notation, axiom, sorry.
-/
import Derived.Test.YtfojoloiahhphaaGreatDoorRows
import GoSem.ClaimSeven
namespace Go.Proofs.YtfojoloiahhphaaGreatDoor
namespace Rows

/-- THE TIED CARD OF 'butterylaw22.ShardNames'. -/
def shardNamesCard : Claim7 := { stood := { row := shardNamesRow, standIns := [], harness := (true, "a9024aa76b196d545967aa7f8eeda30818557fdb57131f274e07523135719cfa"), looks := true }, kinds := [], alts := [], laidByText := true, laidKinds := [.data, .handle, .pinned], laidTests := true, laidLooks := .later }
def ShardNamesCardSaid : Prop := Claim7.holds Tryz.pinned (.plain (OpenSpec.ofChange shardNamesSpec)) shardNamesCard

/-- THE TIED CARD OF 'butterylaw24.OwnerNames'. -/
def ownerNamesCard : Claim7 := { stood := { row := ownerNamesRow, standIns := [], harness := (true, "a9024aa76b196d545967aa7f8eeda30818557fdb57131f274e07523135719cfa"), looks := true }, kinds := [], alts := [], laidByText := true, laidKinds := [.data, .handle, .pinned], laidTests := true, laidLooks := .later }
def OwnerNamesCardSaid : Prop := Claim7.holds Tryz.pinned (.plain (OpenSpec.ofChange ownerNamesSpec)) ownerNamesCard

/-- THE SECOND FORM's CARD OF 'butterylaw22.ShardNames'. -/
def shardNamesUptoCard : Claim7 := { stood := { row := shardNamesUptoRow, standIns := [], harness := (true, "a9024aa76b196d545967aa7f8eeda30818557fdb57131f274e07523135719cfa"), looks := true }, kinds := [], alts := [], laidByText := true, laidKinds := [.data, .handle, .pinned], laidTests := true, laidLooks := .later }
def ShardNamesUptoCardSaid : Prop := Claim7.holds Tryz.pinned (.plain (OpenSpec.upto shardNamesSpec)) shardNamesUptoCard

/-- THE SECOND FORM's CARD OF 'butterylaw24.OwnerNames'. -/
def ownerNamesUptoCard : Claim7 := { stood := { row := ownerNamesUptoRow, standIns := [], harness := (true, "a9024aa76b196d545967aa7f8eeda30818557fdb57131f274e07523135719cfa"), looks := true }, kinds := [], alts := [], laidByText := true, laidKinds := [.data, .handle, .pinned], laidTests := true, laidLooks := .later }
def OwnerNamesUptoCardSaid : Prop := Claim7.holds Tryz.pinned (.plain (OpenSpec.upto ownerNamesSpec)) ownerNamesUptoCard
end Rows
end Go.Proofs.YtfojoloiahhphaaGreatDoor
