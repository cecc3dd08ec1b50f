/-
  DERIVED. GIVEN WITH THE SEED: THE CARDS: each row of YtlenkbgeomojnaaGreatDoorRows.lean that lists a variable, with what it lists TIED to the program's text (the seventh form; the later family's looks); each row that meets fmt, with fmt's text TOLD by the authors' own Lean function (tested against real Go, not proved from fmt's source: count such statements apart). THE CARD IS WHAT COUNTS. Prove the row's statement (the work); the ties are given (YtlenkbgeomojnaaGreatDoorTie.lean); close each card by the builder's one call (the guide's Derived/Test/ToyasCard.lean, 'card_holds'). Laid BY PROGRAM, IN A SANDBOX (cutbox-door.mjs). By AI agents, Wed Nov 11 2026. No macro, syntax, notation, axiom, sorry.
-/
import Derived.Test.YtlenkbgeomojnaaGreatDoorRows
import GoSem.ClaimSeven
namespace Go.Proofs.YtlenkbgeomojnaaGreatDoor
namespace Rows

/-- THE TIED CARD OF 'skywaytop.TopLoad'. -/
def topLoadCard : Claim7 := { stood := { row := topLoadRow, standIns := [], harness := (true, "b25154e6f1a68ca5d131b3c2de6e56b1186dd41d52a4857399f81396dc8d2c0d"), looks := true }, kinds := [], alts := [], laidByText := true, laidKinds := [.data, .data, .data, .data, .data, .data, .data, .sentinel, .sentinel, .widerDeep, .data, .pinned], laidTests := true, laidLooks := .later }
def TopLoadCardSaid : Prop := Claim7.holds Tryz.pinned (.plain (OpenSpec.ofChange topLoadSpec)) topLoadCard

/-- THE SECOND FORM's CARD OF 'skywaytop.TopLoad'. -/
def topLoadUptoCard : Claim7 := { stood := { row := topLoadUptoRow, standIns := [], harness := (true, "b25154e6f1a68ca5d131b3c2de6e56b1186dd41d52a4857399f81396dc8d2c0d"), looks := true }, kinds := [], alts := [], laidByText := true, laidKinds := [.data, .data, .data, .data, .data, .data, .data, .sentinel, .sentinel, .widerDeep, .data, .pinned], laidTests := true, laidLooks := .later }
def TopLoadUptoCardSaid : Prop := Claim7.holds Tryz.pinned (.plain (OpenSpec.upto topLoadSpec)) topLoadUptoCard
end Rows
end Go.Proofs.YtlenkbgeomojnaaGreatDoor
