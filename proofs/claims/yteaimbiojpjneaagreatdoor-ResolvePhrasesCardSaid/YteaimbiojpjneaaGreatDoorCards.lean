/-
  DERIVED. GIVEN WITH THE SEED: THE CARDS: each row of YteaimbiojpjneaaGreatDoorRows.lean that lists a variable, with what it lists TIED to the program's text (the seventh form; the later family's looks); each row that meets fmt, with fmt's text TOLD by the authors' own Lean function (tested against real Go, not proved from fmt's source: count such statements apart). THE CARD IS WHAT COUNTS. Prove the row's statement (the work); the ties are given (YteaimbiojpjneaaGreatDoorTie.lean); close each card by the builder's one call (the guide's Derived/Test/ToyasCard.lean, 'card_holds'). Laid BY PROGRAM, IN A SANDBOX (cutbox-door.mjs). By AI agents, Wed Nov 11 2026. No macro, syntax, notation, axiom, sorry.
-/
import Derived.Test.YteaimbiojpjneaaGreatDoorRows
import GoSem.ClaimSeven
namespace Go.Proofs.YteaimbiojpjneaaGreatDoor
namespace Rows

/-- THE TIED CARD OF 'skywaykeep3.ResolvePhrases'. -/
def resolvePhrasesCard : Claim7 := { stood := { row := resolvePhrasesRow, standIns := [], harness := (true, "45658628047af929697b36e5339af5afca00b3210b491c5b6916f6bb3e3cfc95"), looks := false }, kinds := [], alts := [], laidByText := true, laidKinds := [.data, .data, .data, .widerDeep, .data], laidTests := true, laidLooks := .later }
def ResolvePhrasesCardSaid : Prop := Claim7.holds Tryz.pinned (.plain (OpenSpec.ofChange resolvePhrasesSpec)) resolvePhrasesCard

/-- THE TIED CARD OF 'skywaykeep3.ResolveSafe'. -/
def resolveSafeCard : Claim7 := { stood := { row := resolveSafeRow, standIns := [], harness := (true, "45658628047af929697b36e5339af5afca00b3210b491c5b6916f6bb3e3cfc95"), looks := false }, kinds := [], alts := [], laidByText := true, laidKinds := [.data, .data, .data, .widerDeep, .data], laidTests := true, laidLooks := .later }
def ResolveSafeCardSaid : Prop := Claim7.holds Tryz.pinned (.plain (OpenSpec.ofChange resolveSafeSpec)) resolveSafeCard

/-- THE TIED CARD OF 'skywaykeep3.ResolveAll'. -/
def resolveAllCard : Claim7 := { stood := { row := resolveAllRow, standIns := [], harness := (true, "45658628047af929697b36e5339af5afca00b3210b491c5b6916f6bb3e3cfc95"), looks := false }, kinds := [], alts := [], laidByText := true, laidKinds := [.data, .data, .data, .widerDeep, .data], laidTests := true, laidLooks := .later }
def ResolveAllCardSaid : Prop := Claim7.holds Tryz.pinned (.plain (OpenSpec.ofChange resolveAllSpec)) resolveAllCard

/-- THE SECOND FORM's CARD OF 'skywaykeep3.ResolvePhrases'. -/
def resolvePhrasesUptoCard : Claim7 := { stood := { row := resolvePhrasesUptoRow, standIns := [], harness := (true, "45658628047af929697b36e5339af5afca00b3210b491c5b6916f6bb3e3cfc95"), looks := false }, kinds := [], alts := [], laidByText := true, laidKinds := [.data, .data, .data, .widerDeep, .data], laidTests := true, laidLooks := .later }
def ResolvePhrasesUptoCardSaid : Prop := Claim7.holds Tryz.pinned (.plain (OpenSpec.upto resolvePhrasesSpec)) resolvePhrasesUptoCard

/-- THE SECOND FORM's CARD OF 'skywaykeep3.ResolveSafe'. -/
def resolveSafeUptoCard : Claim7 := { stood := { row := resolveSafeUptoRow, standIns := [], harness := (true, "45658628047af929697b36e5339af5afca00b3210b491c5b6916f6bb3e3cfc95"), looks := false }, kinds := [], alts := [], laidByText := true, laidKinds := [.data, .data, .data, .widerDeep, .data], laidTests := true, laidLooks := .later }
def ResolveSafeUptoCardSaid : Prop := Claim7.holds Tryz.pinned (.plain (OpenSpec.upto resolveSafeSpec)) resolveSafeUptoCard

/-- THE SECOND FORM's CARD OF 'skywaykeep3.ResolveAll'. -/
def resolveAllUptoCard : Claim7 := { stood := { row := resolveAllUptoRow, standIns := [], harness := (true, "45658628047af929697b36e5339af5afca00b3210b491c5b6916f6bb3e3cfc95"), looks := false }, kinds := [], alts := [], laidByText := true, laidKinds := [.data, .data, .data, .widerDeep, .data], laidTests := true, laidLooks := .later }
def ResolveAllUptoCardSaid : Prop := Claim7.holds Tryz.pinned (.plain (OpenSpec.upto resolveAllSpec)) resolveAllUptoCard
end Rows
end Go.Proofs.YteaimbiojpjneaaGreatDoor
