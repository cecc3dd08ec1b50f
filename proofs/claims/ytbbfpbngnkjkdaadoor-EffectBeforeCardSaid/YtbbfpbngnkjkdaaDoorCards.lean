/-
  DERIVED. GIVEN WITH THE SEED: THE CARDS: each row of YtbbfpbngnkjkdaaDoorRows.lean that lists a variable, with what it lists TIED to the program's text (the seventh form; the later family's looks); each row that meets fmt, with fmt's text TOLD by the authors' own Lean function (tested against real Go, not proved from fmt's source: count such statements apart). THE CARD IS WHAT COUNTS. Prove the row's statement (the work); the ties are given (YtbbfpbngnkjkdaaDoorTie.lean); close each card by the builder's one call (the guide's Derived/Test/ToyasCard.lean, 'card_holds'). Laid BY PROGRAM, IN A SANDBOX (cutbox-door.mjs). By AI agents, Wed Nov 11 2026. No macro, syntax, notation, axiom, sorry.
-/
import Derived.Test.YtbbfpbngnkjkdaaDoorRows
import GoSem.ClaimSeven
namespace Go.Proofs.YtbbfpbngnkjkdaaDoor
namespace Rows

/-- THE TIED CARD OF 'skywaykeep3.EffectBefore'. -/
def effectBeforeCard : Claim7 := { stood := { row := effectBeforeRow, standIns := [], harness := (true, "9e2beb9a6b3de8fb133b4900ce432a177f5f2db90a1b877da3d6b8089fe12111"), looks := false }, kinds := [], alts := [], laidByText := true, laidKinds := [.data, .data, .data, .widerDeep, .data], laidTests := true, laidLooks := .later }
def EffectBeforeCardSaid : Prop := Claim7.holds Tryd.pinned (.plain (OpenSpec.ofChange effectBeforeSpec)) effectBeforeCard

/-- THE SECOND FORM's CARD OF 'skywaykeep3.EffectBefore'. -/
def effectBeforeUptoCard : Claim7 := { stood := { row := effectBeforeUptoRow, standIns := [], harness := (true, "9e2beb9a6b3de8fb133b4900ce432a177f5f2db90a1b877da3d6b8089fe12111"), looks := false }, kinds := [], alts := [], laidByText := true, laidKinds := [.data, .data, .data, .widerDeep, .data], laidTests := true, laidLooks := .later }
def EffectBeforeUptoCardSaid : Prop := Claim7.holds Tryd.pinned (.plain (OpenSpec.upto effectBeforeSpec)) effectBeforeUptoCard
end Rows
end Go.Proofs.YtbbfpbngnkjkdaaDoor
