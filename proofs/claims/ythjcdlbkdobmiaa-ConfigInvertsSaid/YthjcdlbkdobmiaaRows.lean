/-
  No cell of these rows narrows 'for every input' (looked for: loops, veiled, ifaces, maps, wideKeys, modest, calm, conditions, laid).
  DERIVED. THE GIVEN ROWS OF THIS SEAT. 3 by the template 'for every input the law returns true; each argument reads behind the call as it read before'; 0 by the template 'total and deterministic' (their statements: YthjcdlbkdobmiaaTotals.lean).
  GIVEN WITH THE SEED: the statements are not yours to turn. If you find one false, say at which input.
  Laid BY PROGRAM, IN A SANDBOX (cutbox-rows.mjs): the forced cells as the released guide's own fill.sh prints them over the translation 8c27126dd356d993… (all of the seat's roots in one cut). By AI agents, Wed Nov 11 2026. No macro, syntax, notation, axiom, sorry.
-/
import Derived.Test.YthjcdlbkdobmiaaChecked
import GoSem.Claim
import GoSem.ClaimJoined
import GoSem.ClaimMapViews
import Derived.JoinedTies
import Derived.KernelRfl
namespace Go.Proofs.Ythjcdlbkdobmiaa
/- THE CELL 'sum', in the pinned program and in every row, IS THE sha256 OF THE DUMP (.gsa) THAT YthjcdlbkdobmiaaProg.lean LOADS. Nothing in Lean hashes anything: it is a label: what it is worth is what the hold of that sum in a sandbox is worth. -/
noncomputable def Try.pinned : Pinned := { name := "ythjcdlbkdobmiaa", sum := "8c27126dd356d993a114960a822bb4a1cf52365c2caa61c3ec31ed678b4757e3", checked := Try.checked }
namespace Rows
def none {H : Type} : Left H := { results := [], args := [] }

/-- 'skywaykeep3.ConfigKeeps': WHATEVER THE INPUT: true; the input reads as it did. -/
def configKeepsSpec : ChangeSpec := { name := "configKeeps", fn := fun _ => fun
  | [d1, d2, d3, d4] => { results := [.lit (.bool true)], args := [d1, d2, d3, d4] }
  | _ => none }
def configKeepsRow : OpenClaim := { program := "ythjcdlbkdobmiaa", sum := "8c27126dd356d993a114960a822bb4a1cf52365c2caa61c3ec31ed678b4757e3", func := "skyway/skywaykeep3.ConfigKeeps", spec := "configKeeps", inPlace := ["internal/bytealg.abigen_runtime_cmpstring"], unfollowed := true, recurses := true, apart := false }
def ConfigKeepsSaid : Prop := configKeepsRow.holds Try.pinned (OpenSpec.ofChange configKeepsSpec)

/-- ITS FALSE NEIGHBOUR: 'it returns false'. Refute it at one input. -/
def configKeepsWrong : ChangeSpec := { name := "configKeeps", fn := fun _ => fun
  | [d1, d2, d3, d4] => { results := [.lit (.bool false)], args := [d1, d2, d3, d4] }
  | _ => none }
def ConfigKeepsWrongFalsely : Prop := configKeepsRow.holds Try.pinned (OpenSpec.ofChange configKeepsWrong)

/-- 'skywaykeep3.ConfigInverts': WHATEVER THE INPUT: true; the input reads as it did. -/
def configInvertsSpec : ChangeSpec := { name := "configInverts", fn := fun _ => fun
  | [d1, d2, d3, d4] => { results := [.lit (.bool true)], args := [d1, d2, d3, d4] }
  | _ => none }
def configInvertsRow : OpenClaim := { program := "ythjcdlbkdobmiaa", sum := "8c27126dd356d993a114960a822bb4a1cf52365c2caa61c3ec31ed678b4757e3", func := "skyway/skywaykeep3.ConfigInverts", spec := "configInverts", inPlace := ["internal/bytealg.abigen_runtime_cmpstring"], unfollowed := true, recurses := true, apart := false }
def ConfigInvertsSaid : Prop := configInvertsRow.holds Try.pinned (OpenSpec.ofChange configInvertsSpec)

/-- ITS FALSE NEIGHBOUR: 'it returns false'. Refute it at one input. -/
def configInvertsWrong : ChangeSpec := { name := "configInverts", fn := fun _ => fun
  | [d1, d2, d3, d4] => { results := [.lit (.bool false)], args := [d1, d2, d3, d4] }
  | _ => none }
def ConfigInvertsWrongFalsely : Prop := configInvertsRow.holds Try.pinned (OpenSpec.ofChange configInvertsWrong)

/-- 'skywaykeep3.ConfigMovings': WHATEVER THE INPUT: true; the input reads as it did. -/
def configMovingsSpec : ChangeSpec := { name := "configMovings", fn := fun _ => fun
  | [d1, d2] => { results := [.lit (.bool true)], args := [d1, d2] }
  | _ => none }
def configMovingsRow : OpenClaim := { program := "ythjcdlbkdobmiaa", sum := "8c27126dd356d993a114960a822bb4a1cf52365c2caa61c3ec31ed678b4757e3", func := "skyway/skywaykeep3.ConfigMovings", spec := "configMovings", inPlace := ["internal/bytealg.abigen_runtime_cmpstring"], unfollowed := true, recurses := true, apart := false }
def ConfigMovingsSaid : Prop := configMovingsRow.holds Try.pinned (OpenSpec.ofChange configMovingsSpec)

/-- ITS FALSE NEIGHBOUR: 'it returns false'. Refute it at one input. -/
def configMovingsWrong : ChangeSpec := { name := "configMovings", fn := fun _ => fun
  | [d1, d2] => { results := [.lit (.bool false)], args := [d1, d2] }
  | _ => none }
def ConfigMovingsWrongFalsely : Prop := configMovingsRow.holds Try.pinned (OpenSpec.ofChange configMovingsWrong)

/- THE SECOND FORM. 'bulk': how many values and letters a reading holds, each counted each time it is reached (what is shared counts as often as it is met; a slice's spare places count too). A statement '..UptoSaid' is the law's where the arguments, and the package variables that the reading takes, are together of bulk at most 1048576: NARROWER than '..Said'. Prove '..Said' where nothing that the law and all that it calls make is longer than what came in: it says more and counts as full. Else prove '..UptoSaid'. A law counts once. -/
mutual
def uptoBulk {H : Type} : DataW H → Nat
  | .lit (.string bytes) => bytes.length + 1
  | .lit _ => 1
  | .nil => 1
  | .ptr d => uptoBulk d + 1
  | .slice elems spare => uptoBulkAll elems + uptoBulkAll spare + 1
  | .agg parts => uptoBulkAll parts + 1
  | .iface _ d => uptoBulk d + 1
  | .map entries => uptoBulkEntries entries + 1
  | .held _ => 1
def uptoBulkAll {H : Type} : List (DataW H) → Nat
  | [] => 0
  | d :: r => uptoBulk d + uptoBulkAll r
def uptoBulkEntries {H : Type} : List (Lit × DataW H) → Nat
  | [] => 0
  | x :: r => uptoBulkEntry x + uptoBulkEntries r
def uptoBulkEntry {H : Type} : Lit × DataW H → Nat
  | (.string bytes, d) => bytes.length + uptoBulk d + 1
  | (_, d) => uptoBulk d + 1
 end
def uptoSmall : (H : Type) → List (DataW H) → Bool := fun _ ds => decide (uptoBulkAll ds ≤ 1048576)
def OpenSpec.upto (s : _root_.Go.ChangeSpec) : _root_.Go.OpenSpec := { _root_.Go.OpenSpec.ofChange s with cond := some uptoSmall }

/-- 'skywaykeep3.ConfigKeeps', WHERE WHAT IT READS IS OF BULK AT MOST 1048576: true; the input reads as it did. -/
def configKeepsUptoRow : OpenClaim := { program := "ythjcdlbkdobmiaa", sum := "8c27126dd356d993a114960a822bb4a1cf52365c2caa61c3ec31ed678b4757e3", func := "skyway/skywaykeep3.ConfigKeeps", spec := "configKeeps", inPlace := ["internal/bytealg.abigen_runtime_cmpstring"], unfollowed := true, recurses := true, apart := false, narrowed := true }
def ConfigKeepsUptoSaid : Prop := configKeepsUptoRow.holds Try.pinned (OpenSpec.upto configKeepsSpec)

/-- 'skywaykeep3.ConfigInverts', WHERE WHAT IT READS IS OF BULK AT MOST 1048576: true; the input reads as it did. -/
def configInvertsUptoRow : OpenClaim := { program := "ythjcdlbkdobmiaa", sum := "8c27126dd356d993a114960a822bb4a1cf52365c2caa61c3ec31ed678b4757e3", func := "skyway/skywaykeep3.ConfigInverts", spec := "configInverts", inPlace := ["internal/bytealg.abigen_runtime_cmpstring"], unfollowed := true, recurses := true, apart := false, narrowed := true }
def ConfigInvertsUptoSaid : Prop := configInvertsUptoRow.holds Try.pinned (OpenSpec.upto configInvertsSpec)

/-- 'skywaykeep3.ConfigMovings', WHERE WHAT IT READS IS OF BULK AT MOST 1048576: true; the input reads as it did. -/
def configMovingsUptoRow : OpenClaim := { program := "ythjcdlbkdobmiaa", sum := "8c27126dd356d993a114960a822bb4a1cf52365c2caa61c3ec31ed678b4757e3", func := "skyway/skywaykeep3.ConfigMovings", spec := "configMovings", inPlace := ["internal/bytealg.abigen_runtime_cmpstring"], unfollowed := true, recurses := true, apart := false, narrowed := true }
def ConfigMovingsUptoSaid : Prop := configMovingsUptoRow.holds Try.pinned (OpenSpec.upto configMovingsSpec)

end Rows
end Go.Proofs.Ythjcdlbkdobmiaa
