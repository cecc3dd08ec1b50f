/-
  No cell of these rows narrows 'for every input' (looked for: loops, veiled, ifaces, maps, wideKeys, modest, calm, conditions, laid).
  DERIVED. THE GIVEN ROWS OF THIS SEAT. 6 by the template 'for every input the law returns true; each argument reads behind the call as it read before'; 0 by the template 'total and deterministic' (their statements: YtfhcciepaangiaaTotals.lean).
  GIVEN WITH THE SEED: the statements are not yours to turn. If you find one false, say at which input.
  Laid BY PROGRAM, IN A SANDBOX (cutbox-rows.mjs): the forced cells as the released guide's own fill.sh prints them over the translation 3037fafbe57fcd2e… (all of the seat's roots in one cut). By AI agents, Wed Nov 11 2026. No macro, syntax, notation, axiom, sorry.
-/
import Derived.Test.YtfhcciepaangiaaChecked
import GoSem.Claim
import GoSem.ClaimJoined
import GoSem.ClaimMapViews
import Derived.JoinedTies
import Derived.KernelRfl
namespace Go.Proofs.Ytfhcciepaangiaa
/- THE CELL 'sum', in the pinned program and in every row, IS THE sha256 OF THE DUMP (.gsa) THAT YtfhcciepaangiaaProg.lean LOADS. Nothing in Lean hashes anything: it is a label: what it is worth is what the hold of that sum in a sandbox is worth. -/
noncomputable def Try.pinned : Pinned := { name := "ytfhcciepaangiaa", sum := "3037fafbe57fcd2e7ac7bb0123521d3126eb9e62946f8279f431b75b08919e62", checked := Try.checked }
namespace Rows
def none {H : Type} : Left H := { results := [], args := [] }

/-- 'skywaykeep3.FlowUses': WHATEVER THE INPUT: true; the input reads as it did. -/
def flowUsesSpec : ChangeSpec := { name := "flowUses", fn := fun _ => fun
  | [d1, d2] => { results := [.lit (.bool true)], args := [d1, d2] }
  | _ => none }
def flowUsesRow : OpenClaim := { program := "ytfhcciepaangiaa", sum := "3037fafbe57fcd2e7ac7bb0123521d3126eb9e62946f8279f431b75b08919e62", func := "skyway/skywaykeep3.FlowUses", spec := "flowUses", unfollowed := true, recurses := true, apart := false }
def FlowUsesSaid : Prop := flowUsesRow.holds Try.pinned (OpenSpec.ofChange flowUsesSpec)

/-- ITS FALSE NEIGHBOUR: 'it returns false'. Refute it at one input. -/
def flowUsesWrong : ChangeSpec := { name := "flowUses", fn := fun _ => fun
  | [d1, d2] => { results := [.lit (.bool false)], args := [d1, d2] }
  | _ => none }
def FlowUsesWrongFalsely : Prop := flowUsesRow.holds Try.pinned (OpenSpec.ofChange flowUsesWrong)

/-- 'skywaykeep3.FlowOrders': WHATEVER THE INPUT: true; the input reads as it did. -/
def flowOrdersSpec : ChangeSpec := { name := "flowOrders", fn := fun _ => fun
  | [d1, d2] => { results := [.lit (.bool true)], args := [d1, d2] }
  | _ => none }
def flowOrdersRow : OpenClaim := { program := "ytfhcciepaangiaa", sum := "3037fafbe57fcd2e7ac7bb0123521d3126eb9e62946f8279f431b75b08919e62", func := "skyway/skywaykeep3.FlowOrders", spec := "flowOrders", unfollowed := true, recurses := true, apart := false }
def FlowOrdersSaid : Prop := flowOrdersRow.holds Try.pinned (OpenSpec.ofChange flowOrdersSpec)

/-- ITS FALSE NEIGHBOUR: 'it returns false'. Refute it at one input. -/
def flowOrdersWrong : ChangeSpec := { name := "flowOrders", fn := fun _ => fun
  | [d1, d2] => { results := [.lit (.bool false)], args := [d1, d2] }
  | _ => none }
def FlowOrdersWrongFalsely : Prop := flowOrdersRow.holds Try.pinned (OpenSpec.ofChange flowOrdersWrong)

/-- 'skywaykeep3.SlotEarlier': WHATEVER THE INPUT: true; the input reads as it did. -/
def slotEarlierSpec : ChangeSpec := { name := "slotEarlier", fn := fun _ => fun
  | [d1, d2, d3] => { results := [.lit (.bool true)], args := [d1, d2, d3] }
  | _ => none }
def slotEarlierRow : OpenClaim := { program := "ytfhcciepaangiaa", sum := "3037fafbe57fcd2e7ac7bb0123521d3126eb9e62946f8279f431b75b08919e62", func := "skyway/skywaykeep3.SlotEarlier", spec := "slotEarlier", unfollowed := true, recurses := true, apart := false }
def SlotEarlierSaid : Prop := slotEarlierRow.holds Try.pinned (OpenSpec.ofChange slotEarlierSpec)

/-- ITS FALSE NEIGHBOUR: 'it returns false'. Refute it at one input. -/
def slotEarlierWrong : ChangeSpec := { name := "slotEarlier", fn := fun _ => fun
  | [d1, d2, d3] => { results := [.lit (.bool false)], args := [d1, d2, d3] }
  | _ => none }
def SlotEarlierWrongFalsely : Prop := slotEarlierRow.holds Try.pinned (OpenSpec.ofChange slotEarlierWrong)

/-- 'skywaykeep3.SlotImproves': WHATEVER THE INPUT: true; the input reads as it did. -/
def slotImprovesSpec : ChangeSpec := { name := "slotImproves", fn := fun _ => fun
  | [d1, d2, d3] => { results := [.lit (.bool true)], args := [d1, d2, d3] }
  | _ => none }
def slotImprovesRow : OpenClaim := { program := "ytfhcciepaangiaa", sum := "3037fafbe57fcd2e7ac7bb0123521d3126eb9e62946f8279f431b75b08919e62", func := "skyway/skywaykeep3.SlotImproves", spec := "slotImproves", unfollowed := true, recurses := true, apart := false }
def SlotImprovesSaid : Prop := slotImprovesRow.holds Try.pinned (OpenSpec.ofChange slotImprovesSpec)

/-- ITS FALSE NEIGHBOUR: 'it returns false'. Refute it at one input. -/
def slotImprovesWrong : ChangeSpec := { name := "slotImproves", fn := fun _ => fun
  | [d1, d2, d3] => { results := [.lit (.bool false)], args := [d1, d2, d3] }
  | _ => none }
def SlotImprovesWrongFalsely : Prop := slotImprovesRow.holds Try.pinned (OpenSpec.ofChange slotImprovesWrong)

/-- 'skywaykeep3.SlotSwaps': WHATEVER THE INPUT: true; the input reads as it did. -/
def slotSwapsSpec : ChangeSpec := { name := "slotSwaps", fn := fun _ => fun
  | [d1, d2, d3, d4] => { results := [.lit (.bool true)], args := [d1, d2, d3, d4] }
  | _ => none }
def slotSwapsRow : OpenClaim := { program := "ytfhcciepaangiaa", sum := "3037fafbe57fcd2e7ac7bb0123521d3126eb9e62946f8279f431b75b08919e62", func := "skyway/skywaykeep3.SlotSwaps", spec := "slotSwaps", unfollowed := true, recurses := true, apart := false }
def SlotSwapsSaid : Prop := slotSwapsRow.holds Try.pinned (OpenSpec.ofChange slotSwapsSpec)

/-- ITS FALSE NEIGHBOUR: 'it returns false'. Refute it at one input. -/
def slotSwapsWrong : ChangeSpec := { name := "slotSwaps", fn := fun _ => fun
  | [d1, d2, d3, d4] => { results := [.lit (.bool false)], args := [d1, d2, d3, d4] }
  | _ => none }
def SlotSwapsWrongFalsely : Prop := slotSwapsRow.holds Try.pinned (OpenSpec.ofChange slotSwapsWrong)

/-- 'skywaykeep3.SlotFits': WHATEVER THE INPUT: true; the input reads as it did. -/
def slotFitsSpec : ChangeSpec := { name := "slotFits", fn := fun _ => fun
  | [d1, d2] => { results := [.lit (.bool true)], args := [d1, d2] }
  | _ => none }
def slotFitsRow : OpenClaim := { program := "ytfhcciepaangiaa", sum := "3037fafbe57fcd2e7ac7bb0123521d3126eb9e62946f8279f431b75b08919e62", func := "skyway/skywaykeep3.SlotFits", spec := "slotFits", unfollowed := true, recurses := true, apart := false }
def SlotFitsSaid : Prop := slotFitsRow.holds Try.pinned (OpenSpec.ofChange slotFitsSpec)

/-- ITS FALSE NEIGHBOUR: 'it returns false'. Refute it at one input. -/
def slotFitsWrong : ChangeSpec := { name := "slotFits", fn := fun _ => fun
  | [d1, d2] => { results := [.lit (.bool false)], args := [d1, d2] }
  | _ => none }
def SlotFitsWrongFalsely : Prop := slotFitsRow.holds Try.pinned (OpenSpec.ofChange slotFitsWrong)

/- THE SECOND FORM. 'bulk': how many values and letters a reading holds, each counted each time it is reached (what is shared counts as often as it is met; a slice's spare places count too). A statement '..UptoSaid' is the law's where the arguments, and the package variables that the reading takes, are together of bulk at most 1048576: NARROWER than '..Said'. Prove '..Said' where nothing that the law and all that it calls make is longer than what came in: it says more and counts as full. Else prove '..UptoSaid'. A law counts once. -/
mutual
def uptoBulk {H : Type} : DataW H → Nat
  | .lit (.string bytes) => bytes.length + 1
  | .lit _ => 1
  | .nil => 1
  | .ptr d => uptoBulk d + 1
  | .slice elems spare => uptoBulkAll elems + uptoBulkAll spare + 1
  | .agg parts => uptoBulkAll parts + 1
  | .iface _ d => uptoBulk d + 1
  | .map entries => uptoBulkEntries entries + 1
  | .held _ => 1
def uptoBulkAll {H : Type} : List (DataW H) → Nat
  | [] => 0
  | d :: r => uptoBulk d + uptoBulkAll r
def uptoBulkEntries {H : Type} : List (Lit × DataW H) → Nat
  | [] => 0
  | x :: r => uptoBulkEntry x + uptoBulkEntries r
def uptoBulkEntry {H : Type} : Lit × DataW H → Nat
  | (.string bytes, d) => bytes.length + uptoBulk d + 1
  | (_, d) => uptoBulk d + 1
 end
def uptoSmall : (H : Type) → List (DataW H) → Bool := fun _ ds => decide (uptoBulkAll ds ≤ 1048576)
def OpenSpec.upto (s : _root_.Go.ChangeSpec) : _root_.Go.OpenSpec := { _root_.Go.OpenSpec.ofChange s with cond := some uptoSmall }

/-- 'skywaykeep3.FlowUses', WHERE WHAT IT READS IS OF BULK AT MOST 1048576: true; the input reads as it did. -/
def flowUsesUptoRow : OpenClaim := { program := "ytfhcciepaangiaa", sum := "3037fafbe57fcd2e7ac7bb0123521d3126eb9e62946f8279f431b75b08919e62", func := "skyway/skywaykeep3.FlowUses", spec := "flowUses", unfollowed := true, recurses := true, apart := false, narrowed := true }
def FlowUsesUptoSaid : Prop := flowUsesUptoRow.holds Try.pinned (OpenSpec.upto flowUsesSpec)

/-- 'skywaykeep3.FlowOrders', WHERE WHAT IT READS IS OF BULK AT MOST 1048576: true; the input reads as it did. -/
def flowOrdersUptoRow : OpenClaim := { program := "ytfhcciepaangiaa", sum := "3037fafbe57fcd2e7ac7bb0123521d3126eb9e62946f8279f431b75b08919e62", func := "skyway/skywaykeep3.FlowOrders", spec := "flowOrders", unfollowed := true, recurses := true, apart := false, narrowed := true }
def FlowOrdersUptoSaid : Prop := flowOrdersUptoRow.holds Try.pinned (OpenSpec.upto flowOrdersSpec)

/-- 'skywaykeep3.SlotEarlier', WHERE WHAT IT READS IS OF BULK AT MOST 1048576: true; the input reads as it did. -/
def slotEarlierUptoRow : OpenClaim := { program := "ytfhcciepaangiaa", sum := "3037fafbe57fcd2e7ac7bb0123521d3126eb9e62946f8279f431b75b08919e62", func := "skyway/skywaykeep3.SlotEarlier", spec := "slotEarlier", unfollowed := true, recurses := true, apart := false, narrowed := true }
def SlotEarlierUptoSaid : Prop := slotEarlierUptoRow.holds Try.pinned (OpenSpec.upto slotEarlierSpec)

/-- 'skywaykeep3.SlotImproves', WHERE WHAT IT READS IS OF BULK AT MOST 1048576: true; the input reads as it did. -/
def slotImprovesUptoRow : OpenClaim := { program := "ytfhcciepaangiaa", sum := "3037fafbe57fcd2e7ac7bb0123521d3126eb9e62946f8279f431b75b08919e62", func := "skyway/skywaykeep3.SlotImproves", spec := "slotImproves", unfollowed := true, recurses := true, apart := false, narrowed := true }
def SlotImprovesUptoSaid : Prop := slotImprovesUptoRow.holds Try.pinned (OpenSpec.upto slotImprovesSpec)

/-- 'skywaykeep3.SlotSwaps', WHERE WHAT IT READS IS OF BULK AT MOST 1048576: true; the input reads as it did. -/
def slotSwapsUptoRow : OpenClaim := { program := "ytfhcciepaangiaa", sum := "3037fafbe57fcd2e7ac7bb0123521d3126eb9e62946f8279f431b75b08919e62", func := "skyway/skywaykeep3.SlotSwaps", spec := "slotSwaps", unfollowed := true, recurses := true, apart := false, narrowed := true }
def SlotSwapsUptoSaid : Prop := slotSwapsUptoRow.holds Try.pinned (OpenSpec.upto slotSwapsSpec)

/-- 'skywaykeep3.SlotFits', WHERE WHAT IT READS IS OF BULK AT MOST 1048576: true; the input reads as it did. -/
def slotFitsUptoRow : OpenClaim := { program := "ytfhcciepaangiaa", sum := "3037fafbe57fcd2e7ac7bb0123521d3126eb9e62946f8279f431b75b08919e62", func := "skyway/skywaykeep3.SlotFits", spec := "slotFits", unfollowed := true, recurses := true, apart := false, narrowed := true }
def SlotFitsUptoSaid : Prop := slotFitsUptoRow.holds Try.pinned (OpenSpec.upto slotFitsSpec)

end Rows
end Go.Proofs.Ytfhcciepaangiaa
