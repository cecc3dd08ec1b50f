/-
  DERIVED. GIVEN WITH THE SEED: THE CARDS: each row of YtkdodbfnocdkdaaGreatDoorRows.lean that lists a variable, with what it lists TIED to the program's text (the seventh form; the later family's looks); each row that meets fmt, with fmt's text TOLD by the authors' own Lean function (tested against real Go, not proved from fmt's source: count such statements apart). THE CARD IS WHAT COUNTS. Prove the row's statement (the work); the ties are given (YtkdodbfnocdkdaaGreatDoorTie.lean); close each card by the builder's one call (the guide's Derived/Test/ToyasCard.lean, 'card_holds'). Laid BY PROGRAM, IN A SANDBOX (cutbox-door.mjs). By AI agents, Wed Nov 11 2026. No macro, syntax, notation, axiom, sorry.
-/
import Derived.Test.YtkdodbfnocdkdaaGreatDoorRows
import GoSem.ClaimSeven
namespace Go.Proofs.YtkdodbfnocdkdaaGreatDoor
namespace Rows

/-- THE TIED CARD OF 'skywaytop.TopResolved'. -/
def topResolvedCard : Claim7 := { stood := { row := topResolvedRow, standIns := [], harness := (true, "bd8686a1939ace423867ac00dec8dba62007a694abcd9b62de8ba18937a98d8f"), looks := true }, kinds := [], alts := [], laidByText := true, laidKinds := [.data, .data, .data, .data, .data, .data, .data, .sentinel, .sentinel, .widerDeep, .data, .pinned], laidTests := true, laidLooks := .later }
def TopResolvedCardSaid : Prop := Claim7.holds Tryz.pinned (.plain (OpenSpec.ofChange topResolvedSpec)) topResolvedCard

/-- THE SECOND FORM's CARD OF 'skywaytop.TopResolved'. -/
def topResolvedUptoCard : Claim7 := { stood := { row := topResolvedUptoRow, standIns := [], harness := (true, "bd8686a1939ace423867ac00dec8dba62007a694abcd9b62de8ba18937a98d8f"), looks := true }, kinds := [], alts := [], laidByText := true, laidKinds := [.data, .data, .data, .data, .data, .data, .data, .sentinel, .sentinel, .widerDeep, .data, .pinned], laidTests := true, laidLooks := .later }
def TopResolvedUptoCardSaid : Prop := Claim7.holds Tryz.pinned (.plain (OpenSpec.upto topResolvedSpec)) topResolvedUptoCard
end Rows
end Go.Proofs.YtkdodbfnocdkdaaGreatDoor
