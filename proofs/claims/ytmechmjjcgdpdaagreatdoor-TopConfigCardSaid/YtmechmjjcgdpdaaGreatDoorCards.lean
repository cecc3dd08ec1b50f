/-
  DERIVED. GIVEN WITH THE SEED: THE CARDS: each row of YtmechmjjcgdpdaaGreatDoorRows.lean that lists a variable, with what it lists TIED to the program's text (the seventh form; the later family's looks); each row that meets fmt, with fmt's text TOLD by the authors' own Lean function (tested against real Go, not proved from fmt's source: count such statements apart). THE CARD IS WHAT COUNTS. Prove the row's statement (the work); the ties are given (YtmechmjjcgdpdaaGreatDoorTie.lean); close each card by the builder's one call (the guide's Derived/Test/ToyasCard.lean, 'card_holds'). Laid BY PROGRAM, IN A SANDBOX (cutbox-door.mjs). By AI agents, Wed Nov 11 2026. No macro, syntax, notation, axiom, sorry.
-/
import Derived.Test.YtmechmjjcgdpdaaGreatDoorRows
import GoSem.ClaimSeven
namespace Go.Proofs.YtmechmjjcgdpdaaGreatDoor
namespace Rows

/-- THE TIED CARD OF 'skywaytop.TopConfig'. -/
def topConfigCard : Claim7 := { stood := { row := topConfigRow, standIns := [], harness := (true, "a0dd1727ce5603e5756632af11a51758ba03df20a96017c1739735b224cc639c"), looks := true }, kinds := [], alts := [], laidByText := true, laidKinds := [.data, .data, .data, .data, .data, .data, .data, .sentinel, .sentinel, .widerDeep, .data, .pinned], laidTests := true, laidLooks := .later }
def TopConfigCardSaid : Prop := Claim7.holds Tryz.pinned (.plain (OpenSpec.ofChange topConfigSpec)) topConfigCard

/-- THE SECOND FORM's CARD OF 'skywaytop.TopConfig'. -/
def topConfigUptoCard : Claim7 := { stood := { row := topConfigUptoRow, standIns := [], harness := (true, "a0dd1727ce5603e5756632af11a51758ba03df20a96017c1739735b224cc639c"), looks := true }, kinds := [], alts := [], laidByText := true, laidKinds := [.data, .data, .data, .data, .data, .data, .data, .sentinel, .sentinel, .widerDeep, .data, .pinned], laidTests := true, laidLooks := .later }
def TopConfigUptoCardSaid : Prop := Claim7.holds Tryz.pinned (.plain (OpenSpec.upto topConfigSpec)) topConfigUptoCard
end Rows
end Go.Proofs.YtmechmjjcgdpdaaGreatDoor
