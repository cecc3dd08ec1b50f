/-
  DERIVED. GIVEN WITH THE SEED: THE CARDS: each row of YtbfabclpcamlnaaGreatDoorRows.lean that lists a variable, with what it lists TIED to the program's text (the seventh form; the later family's looks); each row that meets fmt, with fmt's text TOLD by the authors' own Lean function (tested against real Go, not proved from fmt's source: count such statements apart). THE CARD IS WHAT COUNTS. Prove the row's statement (the work); the ties are given (YtbfabclpcamlnaaGreatDoorTie.lean); close each card by the builder's one call (the guide's Derived/Test/ToyasCard.lean, 'card_holds'). Laid BY PROGRAM, IN A SANDBOX (cutbox-door.mjs). By AI agents, Wed Nov 11 2026. No macro, syntax, notation, axiom, sorry.
-/
import Derived.Test.YtbfabclpcamlnaaGreatDoorRows
import GoSem.ClaimSeven
namespace Go.Proofs.YtbfabclpcamlnaaGreatDoor
namespace Rows

/-- THE TIED CARD OF 'skywaytop.TopLandings'. -/
def topLandingsCard : Claim7 := { stood := { row := topLandingsRow, standIns := [], harness := (true, "8792aea55bc923731e8786262a96d571d8cc8c8473e1b92c0e7c6f9c556fb42a"), looks := true }, kinds := [], alts := [], laidByText := true, laidKinds := [.data, .data, .data, .data, .data, .data, .data, .sentinel, .sentinel, .widerDeep, .data, .pinned], laidTests := true, laidLooks := .later }
def TopLandingsCardSaid : Prop := Claim7.holds Tryz.pinned (.plain (OpenSpec.ofChange topLandingsSpec)) topLandingsCard

/-- THE SECOND FORM's CARD OF 'skywaytop.TopLandings'. -/
def topLandingsUptoCard : Claim7 := { stood := { row := topLandingsUptoRow, standIns := [], harness := (true, "8792aea55bc923731e8786262a96d571d8cc8c8473e1b92c0e7c6f9c556fb42a"), looks := true }, kinds := [], alts := [], laidByText := true, laidKinds := [.data, .data, .data, .data, .data, .data, .data, .sentinel, .sentinel, .widerDeep, .data, .pinned], laidTests := true, laidLooks := .later }
def TopLandingsUptoCardSaid : Prop := Claim7.holds Tryz.pinned (.plain (OpenSpec.upto topLandingsSpec)) topLandingsUptoCard
end Rows
end Go.Proofs.YtbfabclpcamlnaaGreatDoor
