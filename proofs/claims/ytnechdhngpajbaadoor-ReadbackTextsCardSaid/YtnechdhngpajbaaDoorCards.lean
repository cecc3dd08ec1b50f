/-
  DERIVED. GIVEN WITH THE SEED: THE CARDS: each row of YtnechdhngpajbaaDoorRows.lean that lists a variable, with what it lists TIED to the program's text (the seventh form; the later family's looks); each row that meets fmt, with fmt's text TOLD by the authors' own Lean function (tested against real Go, not proved from fmt's source: count such statements apart). THE CARD IS WHAT COUNTS. Prove the row's statement (the work); the ties are given (YtnechdhngpajbaaDoorTie.lean); close each card by the builder's one call (the guide's Derived/Test/ToyasCard.lean, 'card_holds'). Laid BY PROGRAM, IN A SANDBOX (cutbox-door.mjs). By AI agents, Wed Nov 11 2026. No macro, syntax, notation, axiom, sorry.
-/
import Derived.Test.YtnechdhngpajbaaDoorRows
import GoSem.ClaimSeven
namespace Go.Proofs.YtnechdhngpajbaaDoor
namespace Rows

/-- THE TIED CARD OF 'skywaykeep3.ReadbackCloses'. -/
def readbackClosesCard : Claim7 := { stood := { row := readbackClosesRow, standIns := [], harness := (true, "f369e281349d61c040564a8c22cbec4f423beea1be97ad70851289e38981b053"), looks := true }, kinds := [], alts := [], laidByText := true, laidKinds := [.widerDeep, .data], laidTests := true, laidLooks := .later }
def ReadbackClosesCardSaid : Prop := Claim7.holds Tryd.pinned (.plain (OpenSpec.ofChange readbackClosesSpec)) readbackClosesCard

/-- THE TIED CARD OF 'skywaykeep3.ReadbackWaits'. -/
def readbackWaitsCard : Claim7 := { stood := { row := readbackWaitsRow, standIns := [], harness := (true, "f369e281349d61c040564a8c22cbec4f423beea1be97ad70851289e38981b053"), looks := true }, kinds := [], alts := [], laidByText := true, laidKinds := [.widerDeep, .data], laidTests := true, laidLooks := .later }
def ReadbackWaitsCardSaid : Prop := Claim7.holds Tryd.pinned (.plain (OpenSpec.ofChange readbackWaitsSpec)) readbackWaitsCard

/-- THE TIED CARD OF 'skywaykeep3.PhraseBacks'. -/
def phraseBacksCard : Claim7 := { stood := { row := phraseBacksRow, standIns := [], harness := (true, "f369e281349d61c040564a8c22cbec4f423beea1be97ad70851289e38981b053"), looks := true }, kinds := [], alts := [], laidByText := true, laidKinds := [.data, .data, .data, .data, .sentinel, .sentinel, .widerDeep, .data, .pinned], laidTests := true, laidLooks := .later }
def PhraseBacksCardSaid : Prop := Claim7.holds Tryd.pinned (.plain (OpenSpec.ofChange phraseBacksSpec)) phraseBacksCard

/-- THE TIED CARD OF 'skywaykeep3.PhraseReads'. -/
def phraseReadsCard : Claim7 := { stood := { row := phraseReadsRow, standIns := [], harness := (true, "f369e281349d61c040564a8c22cbec4f423beea1be97ad70851289e38981b053"), looks := true }, kinds := [], alts := [], laidByText := true, laidKinds := [.data, .data, .data, .data, .sentinel, .sentinel, .widerDeep, .data, .pinned], laidTests := true, laidLooks := .later }
def PhraseReadsCardSaid : Prop := Claim7.holds Tryd.pinned (.plain (OpenSpec.ofChange phraseReadsSpec)) phraseReadsCard

/-- THE TIED CARD OF 'skywaykeep3.ReadbackTexts'. -/
def readbackTextsCard : Claim7 := { stood := { row := readbackTextsRow, standIns := [], harness := (true, "f369e281349d61c040564a8c22cbec4f423beea1be97ad70851289e38981b053"), looks := true }, kinds := [], alts := [], laidByText := true, laidKinds := [.data, .data, .data, .data, .sentinel, .sentinel, .widerDeep, .data, .pinned], laidTests := true, laidLooks := .later }
def ReadbackTextsCardSaid : Prop := Claim7.holds Tryd.pinned (.plain (OpenSpec.ofChange readbackTextsSpec)) readbackTextsCard

/-- THE SECOND FORM's CARD OF 'skywaykeep3.ReadbackCloses'. -/
def readbackClosesUptoCard : Claim7 := { stood := { row := readbackClosesUptoRow, standIns := [], harness := (true, "f369e281349d61c040564a8c22cbec4f423beea1be97ad70851289e38981b053"), looks := true }, kinds := [], alts := [], laidByText := true, laidKinds := [.widerDeep, .data], laidTests := true, laidLooks := .later }
def ReadbackClosesUptoCardSaid : Prop := Claim7.holds Tryd.pinned (.plain (OpenSpec.upto readbackClosesSpec)) readbackClosesUptoCard

/-- THE SECOND FORM's CARD OF 'skywaykeep3.ReadbackWaits'. -/
def readbackWaitsUptoCard : Claim7 := { stood := { row := readbackWaitsUptoRow, standIns := [], harness := (true, "f369e281349d61c040564a8c22cbec4f423beea1be97ad70851289e38981b053"), looks := true }, kinds := [], alts := [], laidByText := true, laidKinds := [.widerDeep, .data], laidTests := true, laidLooks := .later }
def ReadbackWaitsUptoCardSaid : Prop := Claim7.holds Tryd.pinned (.plain (OpenSpec.upto readbackWaitsSpec)) readbackWaitsUptoCard

/-- THE SECOND FORM's CARD OF 'skywaykeep3.PhraseBacks'. -/
def phraseBacksUptoCard : Claim7 := { stood := { row := phraseBacksUptoRow, standIns := [], harness := (true, "f369e281349d61c040564a8c22cbec4f423beea1be97ad70851289e38981b053"), looks := true }, kinds := [], alts := [], laidByText := true, laidKinds := [.data, .data, .data, .data, .sentinel, .sentinel, .widerDeep, .data, .pinned], laidTests := true, laidLooks := .later }
def PhraseBacksUptoCardSaid : Prop := Claim7.holds Tryd.pinned (.plain (OpenSpec.upto phraseBacksSpec)) phraseBacksUptoCard

/-- THE SECOND FORM's CARD OF 'skywaykeep3.PhraseReads'. -/
def phraseReadsUptoCard : Claim7 := { stood := { row := phraseReadsUptoRow, standIns := [], harness := (true, "f369e281349d61c040564a8c22cbec4f423beea1be97ad70851289e38981b053"), looks := true }, kinds := [], alts := [], laidByText := true, laidKinds := [.data, .data, .data, .data, .sentinel, .sentinel, .widerDeep, .data, .pinned], laidTests := true, laidLooks := .later }
def PhraseReadsUptoCardSaid : Prop := Claim7.holds Tryd.pinned (.plain (OpenSpec.upto phraseReadsSpec)) phraseReadsUptoCard

/-- THE SECOND FORM's CARD OF 'skywaykeep3.ReadbackTexts'. -/
def readbackTextsUptoCard : Claim7 := { stood := { row := readbackTextsUptoRow, standIns := [], harness := (true, "f369e281349d61c040564a8c22cbec4f423beea1be97ad70851289e38981b053"), looks := true }, kinds := [], alts := [], laidByText := true, laidKinds := [.data, .data, .data, .data, .sentinel, .sentinel, .widerDeep, .data, .pinned], laidTests := true, laidLooks := .later }
def ReadbackTextsUptoCardSaid : Prop := Claim7.holds Tryd.pinned (.plain (OpenSpec.upto readbackTextsSpec)) readbackTextsUptoCard
end Rows
end Go.Proofs.YtnechdhngpajbaaDoor
