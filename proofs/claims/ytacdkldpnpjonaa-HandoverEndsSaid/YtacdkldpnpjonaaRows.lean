/-
  No cell of these rows narrows 'for every input' (looked for: loops, veiled, ifaces, maps, wideKeys, modest, calm, conditions, laid).
  DERIVED. THE GIVEN ROWS OF THIS SEAT. 3 by the template 'for every input the law returns true; each argument reads behind the call as it read before'; 0 by the template 'total and deterministic' (their statements: YtacdkldpnpjonaaTotals.lean).
  GIVEN WITH THE SEED: the statements are not yours to turn. If you find one false, say at which input.
  Laid BY PROGRAM, IN A SANDBOX (cutbox-rows.mjs): the forced cells as the released guide's own fill.sh prints them over the translation 7cf1b2f17f2dca64… (all of the seat's roots in one cut). By AI agents, Wed Nov 11 2026. No macro, syntax, notation, axiom, sorry.
-/
import Derived.Test.YtacdkldpnpjonaaChecked
import GoSem.Claim
import GoSem.ClaimJoined
import GoSem.ClaimMapViews
import Derived.JoinedTies
import Derived.KernelRfl
namespace Go.Proofs.Ytacdkldpnpjonaa
/- THE CELL 'sum', in the pinned program and in every row, IS THE sha256 OF THE DUMP (.gsa) THAT YtacdkldpnpjonaaProg.lean LOADS. Nothing in Lean hashes anything: it is a label: what it is worth is what the hold of that sum in a sandbox is worth. -/
noncomputable def Try.pinned : Pinned := { name := "ytacdkldpnpjonaa", sum := "7cf1b2f17f2dca641456653f804f68dfb076cdb2d107fda2f746f4675f4904c9", checked := Try.checked }
namespace Rows
def none {H : Type} : Left H := { results := [], args := [] }

/-- 'skywaykeep3.HandoverRepeats': WHATEVER THE INPUT: true; the input reads as it did. -/
def handoverRepeatsSpec : ChangeSpec := { name := "handoverRepeats", fn := fun _ => fun
  | [d1, d2] => { results := [.lit (.bool true)], args := [d1, d2] }
  | _ => none }
def handoverRepeatsRow : OpenClaim := { program := "ytacdkldpnpjonaa", sum := "7cf1b2f17f2dca641456653f804f68dfb076cdb2d107fda2f746f4675f4904c9", func := "skyway/skywaykeep3.HandoverRepeats", spec := "handoverRepeats", unfollowed := true, recurses := true, apart := false }
def HandoverRepeatsSaid : Prop := handoverRepeatsRow.holds Try.pinned (OpenSpec.ofChange handoverRepeatsSpec)

/-- ITS FALSE NEIGHBOUR: 'it returns false'. Refute it at one input. -/
def handoverRepeatsWrong : ChangeSpec := { name := "handoverRepeats", fn := fun _ => fun
  | [d1, d2] => { results := [.lit (.bool false)], args := [d1, d2] }
  | _ => none }
def HandoverRepeatsWrongFalsely : Prop := handoverRepeatsRow.holds Try.pinned (OpenSpec.ofChange handoverRepeatsWrong)

/-- 'skywaykeep3.HandoverOne': WHATEVER THE INPUT: true; the input reads as it did. -/
def handoverOneSpec : ChangeSpec := { name := "handoverOne", fn := fun _ => fun
  | [d] => { results := [.lit (.bool true)], args := [d] }
  | _ => none }
def handoverOneRow : OpenClaim := { program := "ytacdkldpnpjonaa", sum := "7cf1b2f17f2dca641456653f804f68dfb076cdb2d107fda2f746f4675f4904c9", func := "skyway/skywaykeep3.HandoverOne", spec := "handoverOne", unfollowed := true, recurses := true, apart := false }
def HandoverOneSaid : Prop := handoverOneRow.holds Try.pinned (OpenSpec.ofChange handoverOneSpec)

/-- ITS FALSE NEIGHBOUR: 'it returns false'. Refute it at one input. -/
def handoverOneWrong : ChangeSpec := { name := "handoverOne", fn := fun _ => fun
  | [d] => { results := [.lit (.bool false)], args := [d] }
  | _ => none }
def HandoverOneWrongFalsely : Prop := handoverOneRow.holds Try.pinned (OpenSpec.ofChange handoverOneWrong)

/-- 'skywaykeep3.HandoverEnds': WHATEVER THE INPUT: true; the input reads as it did. -/
def handoverEndsSpec : ChangeSpec := { name := "handoverEnds", fn := fun _ => fun
  | [d] => { results := [.lit (.bool true)], args := [d] }
  | _ => none }
def handoverEndsRow : OpenClaim := { program := "ytacdkldpnpjonaa", sum := "7cf1b2f17f2dca641456653f804f68dfb076cdb2d107fda2f746f4675f4904c9", func := "skyway/skywaykeep3.HandoverEnds", spec := "handoverEnds", unfollowed := true, recurses := true, apart := false }
def HandoverEndsSaid : Prop := handoverEndsRow.holds Try.pinned (OpenSpec.ofChange handoverEndsSpec)

/-- ITS FALSE NEIGHBOUR: 'it returns false'. Refute it at one input. -/
def handoverEndsWrong : ChangeSpec := { name := "handoverEnds", fn := fun _ => fun
  | [d] => { results := [.lit (.bool false)], args := [d] }
  | _ => none }
def HandoverEndsWrongFalsely : Prop := handoverEndsRow.holds Try.pinned (OpenSpec.ofChange handoverEndsWrong)

/- THE SECOND FORM. 'bulk': how many values and letters a reading holds, each counted each time it is reached (what is shared counts as often as it is met; a slice's spare places count too). A statement '..UptoSaid' is the law's where the arguments, and the package variables that the reading takes, are together of bulk at most 1048576: NARROWER than '..Said'. Prove '..Said' where nothing that the law and all that it calls make is longer than what came in: it says more and counts as full. Else prove '..UptoSaid'. A law counts once. -/
mutual
def uptoBulk {H : Type} : DataW H → Nat
  | .lit (.string bytes) => bytes.length + 1
  | .lit _ => 1
  | .nil => 1
  | .ptr d => uptoBulk d + 1
  | .slice elems spare => uptoBulkAll elems + uptoBulkAll spare + 1
  | .agg parts => uptoBulkAll parts + 1
  | .iface _ d => uptoBulk d + 1
  | .map entries => uptoBulkEntries entries + 1
  | .held _ => 1
def uptoBulkAll {H : Type} : List (DataW H) → Nat
  | [] => 0
  | d :: r => uptoBulk d + uptoBulkAll r
def uptoBulkEntries {H : Type} : List (Lit × DataW H) → Nat
  | [] => 0
  | x :: r => uptoBulkEntry x + uptoBulkEntries r
def uptoBulkEntry {H : Type} : Lit × DataW H → Nat
  | (.string bytes, d) => bytes.length + uptoBulk d + 1
  | (_, d) => uptoBulk d + 1
 end
def uptoSmall : (H : Type) → List (DataW H) → Bool := fun _ ds => decide (uptoBulkAll ds ≤ 1048576)
def OpenSpec.upto (s : _root_.Go.ChangeSpec) : _root_.Go.OpenSpec := { _root_.Go.OpenSpec.ofChange s with cond := some uptoSmall }

/-- 'skywaykeep3.HandoverRepeats', WHERE WHAT IT READS IS OF BULK AT MOST 1048576: true; the input reads as it did. -/
def handoverRepeatsUptoRow : OpenClaim := { program := "ytacdkldpnpjonaa", sum := "7cf1b2f17f2dca641456653f804f68dfb076cdb2d107fda2f746f4675f4904c9", func := "skyway/skywaykeep3.HandoverRepeats", spec := "handoverRepeats", unfollowed := true, recurses := true, apart := false, narrowed := true }
def HandoverRepeatsUptoSaid : Prop := handoverRepeatsUptoRow.holds Try.pinned (OpenSpec.upto handoverRepeatsSpec)

/-- 'skywaykeep3.HandoverOne', WHERE WHAT IT READS IS OF BULK AT MOST 1048576: true; the input reads as it did. -/
def handoverOneUptoRow : OpenClaim := { program := "ytacdkldpnpjonaa", sum := "7cf1b2f17f2dca641456653f804f68dfb076cdb2d107fda2f746f4675f4904c9", func := "skyway/skywaykeep3.HandoverOne", spec := "handoverOne", unfollowed := true, recurses := true, apart := false, narrowed := true }
def HandoverOneUptoSaid : Prop := handoverOneUptoRow.holds Try.pinned (OpenSpec.upto handoverOneSpec)

/-- 'skywaykeep3.HandoverEnds', WHERE WHAT IT READS IS OF BULK AT MOST 1048576: true; the input reads as it did. -/
def handoverEndsUptoRow : OpenClaim := { program := "ytacdkldpnpjonaa", sum := "7cf1b2f17f2dca641456653f804f68dfb076cdb2d107fda2f746f4675f4904c9", func := "skyway/skywaykeep3.HandoverEnds", spec := "handoverEnds", unfollowed := true, recurses := true, apart := false, narrowed := true }
def HandoverEndsUptoSaid : Prop := handoverEndsUptoRow.holds Try.pinned (OpenSpec.upto handoverEndsSpec)

end Rows
end Go.Proofs.Ytacdkldpnpjonaa
