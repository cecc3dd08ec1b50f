/-
  DERIVED. GIVEN WITH THE SEED: THE CARDS: each row of YtmhnnmfcjdnlhaaGreatDoorRows.lean that lists a variable, with what it lists TIED to the program's text (the seventh form; the later family's looks); each row that meets fmt, with fmt's text TOLD by the authors' own Lean function (tested against real Go, not proved from fmt's source: count such statements apart). THE CARD IS WHAT COUNTS. Prove the row's statement (the work); the ties are given (YtmhnnmfcjdnlhaaGreatDoorTie.lean); close each card by the builder's one call (the guide's Derived/Test/ToyasCard.lean, 'card_holds'). Laid BY PROGRAM, IN A SANDBOX (cutbox-door.mjs). By AI agents, Wed Nov 11 2026. No macro, syntax, notation, axiom, sorry.
-/
import Derived.Test.YtmhnnmfcjdnlhaaGreatDoorRows
import GoSem.ClaimSeven
namespace Go.Proofs.YtmhnnmfcjdnlhaaGreatDoor
namespace Rows

/-- THE TIED CARD OF 'skywaykeep3.ResolveSafe'. -/
def resolveSafeCard : Claim7 := { stood := { row := resolveSafeRow, standIns := [], harness := (true, "57d156a90db466b37f97add32f0e69d8550a967ff9779421c2948c777cb9d810"), looks := false }, kinds := [], alts := [], laidByText := true, laidKinds := [.data, .data, .data, .widerDeep, .data], laidTests := true, laidLooks := .later }
def ResolveSafeCardSaid : Prop := Claim7.holds Tryz.pinned (.plain (OpenSpec.ofChange resolveSafeSpec)) resolveSafeCard

/-- THE SECOND FORM's CARD OF 'skywaykeep3.ResolveSafe'. -/
def resolveSafeUptoCard : Claim7 := { stood := { row := resolveSafeUptoRow, standIns := [], harness := (true, "57d156a90db466b37f97add32f0e69d8550a967ff9779421c2948c777cb9d810"), looks := false }, kinds := [], alts := [], laidByText := true, laidKinds := [.data, .data, .data, .widerDeep, .data], laidTests := true, laidLooks := .later }
def ResolveSafeUptoCardSaid : Prop := Claim7.holds Tryz.pinned (.plain (OpenSpec.upto resolveSafeSpec)) resolveSafeUptoCard
end Rows
end Go.Proofs.YtmhnnmfcjdnlhaaGreatDoor
