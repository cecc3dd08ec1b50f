/-
  DERIVED. GIVEN WITH THE SEED: THE CARDS: each row of YtpjepkldnnfncaaDoorRows.lean that lists a variable, with what it lists TIED to the program's text (the seventh form; the later family's looks); each row that meets fmt, with fmt's text TOLD by the authors' own Lean function (tested against real Go, not proved from fmt's source: count such statements apart). THE CARD IS WHAT COUNTS. Prove the row's statement (the work); the ties are given (YtpjepkldnnfncaaDoorTie.lean); close each card by the builder's one call (the guide's Derived/Test/ToyasCard.lean, 'card_holds'). Laid BY PROGRAM, IN A SANDBOX (cutbox-door.mjs). By AI agents, Wed Nov 11 2026. No macro, syntax, notation, axiom, sorry.
-/
import Derived.Test.YtpjepkldnnfncaaDoorRows
import GoSem.ClaimSeven
namespace Go.Proofs.YtpjepkldnnfncaaDoor
namespace Rows

/-- THE TIED CARD OF 'skywaykeep3.EffectBefore'. -/
def effectBeforeCard : Claim7 := { stood := { row := effectBeforeRow, standIns := [], harness := (true, "90afd5674cd10811ef6f42bdcb0c331d3def648014a5295f262c9843a3e8d3a5"), looks := false }, kinds := [], alts := [], laidByText := true, laidKinds := [.data, .data, .data, .widerDeep, .data], laidTests := true, laidLooks := .later }
def EffectBeforeCardSaid : Prop := Claim7.holds Tryd.pinned (.plain (OpenSpec.ofChange effectBeforeSpec)) effectBeforeCard

/-- THE TIED CARD OF 'skywaykeep3.EffectReaches'. -/
def effectReachesCard : Claim7 := { stood := { row := effectReachesRow, standIns := [], harness := (true, "90afd5674cd10811ef6f42bdcb0c331d3def648014a5295f262c9843a3e8d3a5"), looks := false }, kinds := [], alts := [], laidByText := true, laidKinds := [.data, .data, .data, .widerDeep, .data], laidTests := true, laidLooks := .later }
def EffectReachesCardSaid : Prop := Claim7.holds Tryd.pinned (.plain (OpenSpec.ofChange effectReachesSpec)) effectReachesCard

/-- THE TIED CARD OF 'skywaykeep3.EffectArrives'. -/
def effectArrivesCard : Claim7 := { stood := { row := effectArrivesRow, standIns := [], harness := (true, "90afd5674cd10811ef6f42bdcb0c331d3def648014a5295f262c9843a3e8d3a5"), looks := false }, kinds := [], alts := [], laidByText := true, laidKinds := [.data, .data, .data, .widerDeep, .data], laidTests := true, laidLooks := .later }
def EffectArrivesCardSaid : Prop := Claim7.holds Tryd.pinned (.plain (OpenSpec.ofChange effectArrivesSpec)) effectArrivesCard

/-- THE TIED CARD OF 'skywaykeep3.EffectFirst'. -/
def effectFirstCard : Claim7 := { stood := { row := effectFirstRow, standIns := [], harness := (true, "90afd5674cd10811ef6f42bdcb0c331d3def648014a5295f262c9843a3e8d3a5"), looks := false }, kinds := [], alts := [], laidByText := true, laidKinds := [.data, .data, .data, .widerDeep, .data], laidTests := true, laidLooks := .later }
def EffectFirstCardSaid : Prop := Claim7.holds Tryd.pinned (.plain (OpenSpec.ofChange effectFirstSpec)) effectFirstCard

/-- THE TIED CARD OF 'skywaykeep3.EffectPaces'. -/
def effectPacesCard : Claim7 := { stood := { row := effectPacesRow, standIns := [], harness := (true, "90afd5674cd10811ef6f42bdcb0c331d3def648014a5295f262c9843a3e8d3a5"), looks := false }, kinds := [], alts := [], laidByText := true, laidKinds := [.data, .data, .data, .widerDeep, .data], laidTests := true, laidLooks := .later }
def EffectPacesCardSaid : Prop := Claim7.holds Tryd.pinned (.plain (OpenSpec.ofChange effectPacesSpec)) effectPacesCard

/-- THE TIED CARD OF 'skywaykeep3.EffectNothing'. -/
def effectNothingCard : Claim7 := { stood := { row := effectNothingRow, standIns := [], harness := (true, "90afd5674cd10811ef6f42bdcb0c331d3def648014a5295f262c9843a3e8d3a5"), looks := false }, kinds := [], alts := [], laidByText := true, laidKinds := [.data, .data, .data, .widerDeep, .data], laidTests := true, laidLooks := .later }
def EffectNothingCardSaid : Prop := Claim7.holds Tryd.pinned (.plain (OpenSpec.ofChange effectNothingSpec)) effectNothingCard

/-- THE SECOND FORM's CARD OF 'skywaykeep3.EffectBefore'. -/
def effectBeforeUptoCard : Claim7 := { stood := { row := effectBeforeUptoRow, standIns := [], harness := (true, "90afd5674cd10811ef6f42bdcb0c331d3def648014a5295f262c9843a3e8d3a5"), looks := false }, kinds := [], alts := [], laidByText := true, laidKinds := [.data, .data, .data, .widerDeep, .data], laidTests := true, laidLooks := .later }
def EffectBeforeUptoCardSaid : Prop := Claim7.holds Tryd.pinned (.plain (OpenSpec.upto effectBeforeSpec)) effectBeforeUptoCard

/-- THE SECOND FORM's CARD OF 'skywaykeep3.EffectReaches'. -/
def effectReachesUptoCard : Claim7 := { stood := { row := effectReachesUptoRow, standIns := [], harness := (true, "90afd5674cd10811ef6f42bdcb0c331d3def648014a5295f262c9843a3e8d3a5"), looks := false }, kinds := [], alts := [], laidByText := true, laidKinds := [.data, .data, .data, .widerDeep, .data], laidTests := true, laidLooks := .later }
def EffectReachesUptoCardSaid : Prop := Claim7.holds Tryd.pinned (.plain (OpenSpec.upto effectReachesSpec)) effectReachesUptoCard

/-- THE SECOND FORM's CARD OF 'skywaykeep3.EffectArrives'. -/
def effectArrivesUptoCard : Claim7 := { stood := { row := effectArrivesUptoRow, standIns := [], harness := (true, "90afd5674cd10811ef6f42bdcb0c331d3def648014a5295f262c9843a3e8d3a5"), looks := false }, kinds := [], alts := [], laidByText := true, laidKinds := [.data, .data, .data, .widerDeep, .data], laidTests := true, laidLooks := .later }
def EffectArrivesUptoCardSaid : Prop := Claim7.holds Tryd.pinned (.plain (OpenSpec.upto effectArrivesSpec)) effectArrivesUptoCard

/-- THE SECOND FORM's CARD OF 'skywaykeep3.EffectFirst'. -/
def effectFirstUptoCard : Claim7 := { stood := { row := effectFirstUptoRow, standIns := [], harness := (true, "90afd5674cd10811ef6f42bdcb0c331d3def648014a5295f262c9843a3e8d3a5"), looks := false }, kinds := [], alts := [], laidByText := true, laidKinds := [.data, .data, .data, .widerDeep, .data], laidTests := true, laidLooks := .later }
def EffectFirstUptoCardSaid : Prop := Claim7.holds Tryd.pinned (.plain (OpenSpec.upto effectFirstSpec)) effectFirstUptoCard

/-- THE SECOND FORM's CARD OF 'skywaykeep3.EffectPaces'. -/
def effectPacesUptoCard : Claim7 := { stood := { row := effectPacesUptoRow, standIns := [], harness := (true, "90afd5674cd10811ef6f42bdcb0c331d3def648014a5295f262c9843a3e8d3a5"), looks := false }, kinds := [], alts := [], laidByText := true, laidKinds := [.data, .data, .data, .widerDeep, .data], laidTests := true, laidLooks := .later }
def EffectPacesUptoCardSaid : Prop := Claim7.holds Tryd.pinned (.plain (OpenSpec.upto effectPacesSpec)) effectPacesUptoCard

/-- THE SECOND FORM's CARD OF 'skywaykeep3.EffectNothing'. -/
def effectNothingUptoCard : Claim7 := { stood := { row := effectNothingUptoRow, standIns := [], harness := (true, "90afd5674cd10811ef6f42bdcb0c331d3def648014a5295f262c9843a3e8d3a5"), looks := false }, kinds := [], alts := [], laidByText := true, laidKinds := [.data, .data, .data, .widerDeep, .data], laidTests := true, laidLooks := .later }
def EffectNothingUptoCardSaid : Prop := Claim7.holds Tryd.pinned (.plain (OpenSpec.upto effectNothingSpec)) effectNothingUptoCard
end Rows
end Go.Proofs.YtpjepkldnnfncaaDoor
