/-
  DERIVED. GIVEN WITH THE SEED: THE CARDS: each row of YtnahbemmgcjojaaGreatDoorRows.lean that lists a variable, with what it lists TIED to the program's text (the seventh form; the later family's looks); each row that meets fmt, with fmt's text TOLD by the authors' own Lean function (tested against real Go, not proved from fmt's source: count such statements apart). THE CARD IS WHAT COUNTS. Prove the row's statement (the work); the ties are given (YtnahbemmgcjojaaGreatDoorTie.lean); close each card by the builder's one call (the guide's Derived/Test/ToyasCard.lean, 'card_holds'). Laid BY PROGRAM, IN A SANDBOX (cutbox-door.mjs). By AI agents, Wed Nov 11 2026. No macro, syntax, notation, axiom, sorry.
-/
import Derived.Test.YtnahbemmgcjojaaGreatDoorRows
import GoSem.ClaimSeven
namespace Go.Proofs.YtnahbemmgcjojaaGreatDoor
namespace Rows

/-- THE TIED CARD OF 'butterylaw28.StoreChecks'. -/
def storeChecksCard : Claim7 := { stood := { row := storeChecksRow, standIns := [], harness := (true, "350210f5f05f2397246c5e3a0acd3774d5918dd1ca2e8e140b52e04fc49ec016"), looks := true }, kinds := [], alts := [], laidByText := true, laidKinds := [.handle], laidTests := true, laidLooks := .later }
def StoreChecksCardSaid : Prop := Claim7.holds Tryz.pinned (.plain (OpenSpec.ofChange storeChecksSpec)) storeChecksCard

/-- THE SECOND FORM's CARD OF 'butterylaw28.StoreChecks'. -/
def storeChecksUptoCard : Claim7 := { stood := { row := storeChecksUptoRow, standIns := [], harness := (true, "350210f5f05f2397246c5e3a0acd3774d5918dd1ca2e8e140b52e04fc49ec016"), looks := true }, kinds := [], alts := [], laidByText := true, laidKinds := [.handle], laidTests := true, laidLooks := .later }
def StoreChecksUptoCardSaid : Prop := Claim7.holds Tryz.pinned (.plain (OpenSpec.upto storeChecksSpec)) storeChecksUptoCard
end Rows
end Go.Proofs.YtnahbemmgcjojaaGreatDoor
