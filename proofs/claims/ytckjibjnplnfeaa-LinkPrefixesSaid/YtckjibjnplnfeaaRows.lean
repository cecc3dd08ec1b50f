/-
  No cell of these rows narrows 'for every input' (looked for: loops, veiled, ifaces, maps, wideKeys, modest, calm, conditions, laid).
  DERIVED. THE GIVEN ROWS OF THIS SEAT. 2 by the template 'for every input the law returns true; each argument reads behind the call as it read before'; 0 by the template 'total and deterministic' (their statements: YtckjibjnplnfeaaTotals.lean).
  GIVEN WITH THE SEED: the statements are not yours to turn. If you find one false, say at which input.
  Laid BY PROGRAM, IN A SANDBOX (cutbox-rows.mjs): the forced cells as the released guide's own fill.sh prints them over the translation 76aa23abc2a7e46e… (all of the seat's roots in one cut). By AI agents, Wed Nov 11 2026. No macro, syntax, notation, axiom, sorry.
-/
import Derived.Test.YtckjibjnplnfeaaChecked
import GoSem.Claim
import GoSem.ClaimJoined
import GoSem.ClaimMapViews
import Derived.JoinedTies
import Derived.KernelRfl
namespace Go.Proofs.Ytckjibjnplnfeaa
/- THE CELL 'sum', in the pinned program and in every row, IS THE sha256 OF THE DUMP (.gsa) THAT YtckjibjnplnfeaaProg.lean LOADS. Nothing in Lean hashes anything: it is a label: what it is worth is what the hold of that sum in a sandbox is worth. -/
noncomputable def Try.pinned : Pinned := { name := "ytckjibjnplnfeaa", sum := "76aa23abc2a7e46e372b7d6243edb85d1302849b7b7bbc8a1add698a50e56ffa", checked := Try.checked }
namespace Rows
def none {H : Type} : Left H := { results := [], args := [] }

/-- 'skywaykeep3.LinkPrefixes': WHATEVER THE INPUT: true; the input reads as it did. -/
def linkPrefixesSpec : ChangeSpec := { name := "linkPrefixes", fn := fun _ => fun
  | [d1, d2] => { results := [.lit (.bool true)], args := [d1, d2] }
  | _ => none }
def linkPrefixesRow : OpenClaim := { program := "ytckjibjnplnfeaa", sum := "76aa23abc2a7e46e372b7d6243edb85d1302849b7b7bbc8a1add698a50e56ffa", func := "skyway/skywaykeep3.LinkPrefixes", spec := "linkPrefixes", unfollowed := true, recurses := true, apart := false }
def LinkPrefixesSaid : Prop := linkPrefixesRow.holds Try.pinned (OpenSpec.ofChange linkPrefixesSpec)

/-- ITS FALSE NEIGHBOUR: 'it returns false'. Refute it at one input. -/
def linkPrefixesWrong : ChangeSpec := { name := "linkPrefixes", fn := fun _ => fun
  | [d1, d2] => { results := [.lit (.bool false)], args := [d1, d2] }
  | _ => none }
def LinkPrefixesWrongFalsely : Prop := linkPrefixesRow.holds Try.pinned (OpenSpec.ofChange linkPrefixesWrong)

/-- 'skywaykeep3.LinkForgets': WHATEVER THE INPUT: true; the input reads as it did. -/
def linkForgetsSpec : ChangeSpec := { name := "linkForgets", fn := fun _ => fun
  | [d1, d2] => { results := [.lit (.bool true)], args := [d1, d2] }
  | _ => none }
def linkForgetsRow : OpenClaim := { program := "ytckjibjnplnfeaa", sum := "76aa23abc2a7e46e372b7d6243edb85d1302849b7b7bbc8a1add698a50e56ffa", func := "skyway/skywaykeep3.LinkForgets", spec := "linkForgets", unfollowed := true, recurses := true, apart := false }
def LinkForgetsSaid : Prop := linkForgetsRow.holds Try.pinned (OpenSpec.ofChange linkForgetsSpec)

/-- ITS FALSE NEIGHBOUR: 'it returns false'. Refute it at one input. -/
def linkForgetsWrong : ChangeSpec := { name := "linkForgets", fn := fun _ => fun
  | [d1, d2] => { results := [.lit (.bool false)], args := [d1, d2] }
  | _ => none }
def LinkForgetsWrongFalsely : Prop := linkForgetsRow.holds Try.pinned (OpenSpec.ofChange linkForgetsWrong)

/- THE SECOND FORM. 'bulk': how many values and letters a reading holds, each counted each time it is reached (what is shared counts as often as it is met; a slice's spare places count too). A statement '..UptoSaid' is the law's where the arguments, and the package variables that the reading takes, are together of bulk at most 1048576: NARROWER than '..Said'. Prove '..Said' where nothing that the law and all that it calls make is longer than what came in: it says more and counts as full. Else prove '..UptoSaid'. A law counts once. -/
mutual
def uptoBulk {H : Type} : DataW H → Nat
  | .lit (.string bytes) => bytes.length + 1
  | .lit _ => 1
  | .nil => 1
  | .ptr d => uptoBulk d + 1
  | .slice elems spare => uptoBulkAll elems + uptoBulkAll spare + 1
  | .agg parts => uptoBulkAll parts + 1
  | .iface _ d => uptoBulk d + 1
  | .map entries => uptoBulkEntries entries + 1
  | .held _ => 1
def uptoBulkAll {H : Type} : List (DataW H) → Nat
  | [] => 0
  | d :: r => uptoBulk d + uptoBulkAll r
def uptoBulkEntries {H : Type} : List (Lit × DataW H) → Nat
  | [] => 0
  | x :: r => uptoBulkEntry x + uptoBulkEntries r
def uptoBulkEntry {H : Type} : Lit × DataW H → Nat
  | (.string bytes, d) => bytes.length + uptoBulk d + 1
  | (_, d) => uptoBulk d + 1
 end
def uptoSmall : (H : Type) → List (DataW H) → Bool := fun _ ds => decide (uptoBulkAll ds ≤ 1048576)
def OpenSpec.upto (s : _root_.Go.ChangeSpec) : _root_.Go.OpenSpec := { _root_.Go.OpenSpec.ofChange s with cond := some uptoSmall }

/-- 'skywaykeep3.LinkPrefixes', WHERE WHAT IT READS IS OF BULK AT MOST 1048576: true; the input reads as it did. -/
def linkPrefixesUptoRow : OpenClaim := { program := "ytckjibjnplnfeaa", sum := "76aa23abc2a7e46e372b7d6243edb85d1302849b7b7bbc8a1add698a50e56ffa", func := "skyway/skywaykeep3.LinkPrefixes", spec := "linkPrefixes", unfollowed := true, recurses := true, apart := false, narrowed := true }
def LinkPrefixesUptoSaid : Prop := linkPrefixesUptoRow.holds Try.pinned (OpenSpec.upto linkPrefixesSpec)

/-- 'skywaykeep3.LinkForgets', WHERE WHAT IT READS IS OF BULK AT MOST 1048576: true; the input reads as it did. -/
def linkForgetsUptoRow : OpenClaim := { program := "ytckjibjnplnfeaa", sum := "76aa23abc2a7e46e372b7d6243edb85d1302849b7b7bbc8a1add698a50e56ffa", func := "skyway/skywaykeep3.LinkForgets", spec := "linkForgets", unfollowed := true, recurses := true, apart := false, narrowed := true }
def LinkForgetsUptoSaid : Prop := linkForgetsUptoRow.holds Try.pinned (OpenSpec.upto linkForgetsSpec)

end Rows
end Go.Proofs.Ytckjibjnplnfeaa
