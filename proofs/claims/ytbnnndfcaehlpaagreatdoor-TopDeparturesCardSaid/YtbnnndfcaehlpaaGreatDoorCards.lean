/-
  DERIVED. GIVEN WITH THE SEED: THE CARDS: each row of YtbnnndfcaehlpaaGreatDoorRows.lean that lists a variable, with what it lists TIED to the program's text (the seventh form; the later family's looks); each row that meets fmt, with fmt's text TOLD by the authors' own Lean function (tested against real Go, not proved from fmt's source: count such statements apart). THE CARD IS WHAT COUNTS. Prove the row's statement (the work); the ties are given (YtbnnndfcaehlpaaGreatDoorTie.lean); close each card by the builder's one call (the guide's Derived/Test/ToyasCard.lean, 'card_holds'). Laid BY PROGRAM, IN A SANDBOX (cutbox-door.mjs). By AI agents, Wed Nov 11 2026. No macro, syntax, notation, axiom, sorry.
-/
import Derived.Test.YtbnnndfcaehlpaaGreatDoorRows
import GoSem.ClaimSeven
namespace Go.Proofs.YtbnnndfcaehlpaaGreatDoor
namespace Rows

/-- THE TIED CARD OF 'skywaytop.TopDepartures'. -/
def topDeparturesCard : Claim7 := { stood := { row := topDeparturesRow, standIns := [], harness := (true, "33565e75f55a9dc9f70b63e519c3bf5722d7a26c5263bb26f37dc38b86372234"), looks := true }, kinds := [], alts := [], laidByText := true, laidKinds := [.data, .data, .data, .data, .data, .data, .data, .sentinel, .sentinel, .widerDeep, .data, .pinned], laidTests := true, laidLooks := .later }
def TopDeparturesCardSaid : Prop := Claim7.holds Tryz.pinned (.plain (OpenSpec.ofChange topDeparturesSpec)) topDeparturesCard

/-- THE SECOND FORM's CARD OF 'skywaytop.TopDepartures'. -/
def topDeparturesUptoCard : Claim7 := { stood := { row := topDeparturesUptoRow, standIns := [], harness := (true, "33565e75f55a9dc9f70b63e519c3bf5722d7a26c5263bb26f37dc38b86372234"), looks := true }, kinds := [], alts := [], laidByText := true, laidKinds := [.data, .data, .data, .data, .data, .data, .data, .sentinel, .sentinel, .widerDeep, .data, .pinned], laidTests := true, laidLooks := .later }
def TopDeparturesUptoCardSaid : Prop := Claim7.holds Tryz.pinned (.plain (OpenSpec.upto topDeparturesSpec)) topDeparturesUptoCard
end Rows
end Go.Proofs.YtbnnndfcaehlpaaGreatDoor
