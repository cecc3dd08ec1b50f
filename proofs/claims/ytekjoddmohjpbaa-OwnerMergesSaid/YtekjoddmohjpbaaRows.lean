/-
  No cell of these rows narrows 'for every input' (looked for: loops, veiled, ifaces, maps, wideKeys, modest, calm, conditions, laid).
  DERIVED. THE GIVEN ROWS OF THIS SEAT. 3 by the template 'for every input the law returns true; each argument reads behind the call as it read before'; 0 by the template 'total and deterministic' (their statements: YtekjoddmohjpbaaTotals.lean).
  GIVEN WITH THE SEED: the statements are not yours to turn. If you find one false, say at which input.
  Laid BY PROGRAM, IN A SANDBOX (cutbox-rows.mjs): the forced cells as the released guide's own fill.sh prints them over the translation 5b9ced352fa85314… (all of the seat's roots in one cut). By AI agents, Wed Nov 11 2026. No macro, syntax, notation, axiom, sorry.
-/
import Derived.Test.YtekjoddmohjpbaaChecked
import GoSem.Claim
import GoSem.ClaimJoined
import GoSem.ClaimMapViews
import Derived.JoinedTies
import Derived.KernelRfl
namespace Go.Proofs.Ytekjoddmohjpbaa
/- THE CELL 'sum', in the pinned program and in every row, IS THE sha256 OF THE DUMP (.gsa) THAT YtekjoddmohjpbaaProg.lean LOADS. Nothing in Lean hashes anything: it is a label: what it is worth is what the hold of that sum in a sandbox is worth. -/
noncomputable def Try.pinned : Pinned := { name := "ytekjoddmohjpbaa", sum := "5b9ced352fa8531450950afeade6132bc93f749eb9cceb74fb77acd20d5a1cae", checked := Try.checked }
namespace Rows
def none {H : Type} : Left H := { results := [], args := [] }

/-- 'skywaykeep3.OwnerPasses': WHATEVER THE INPUT: true; the input reads as it did. -/
def ownerPassesSpec : ChangeSpec := { name := "ownerPasses", fn := fun _ => fun
  | [d1, d2, d3, d4, d5] => { results := [.lit (.bool true)], args := [d1, d2, d3, d4, d5] }
  | _ => none }
def ownerPassesRow : OpenClaim := { program := "ytekjoddmohjpbaa", sum := "5b9ced352fa8531450950afeade6132bc93f749eb9cceb74fb77acd20d5a1cae", func := "skyway/skywaykeep3.OwnerPasses", spec := "ownerPasses", inPlace := ["slices.overlaps[skyway/api.OwnerEntry]"], unfollowed := true, recurses := true, apart := false }
def OwnerPassesSaid : Prop := ownerPassesRow.holds Try.pinned (OpenSpec.ofChange ownerPassesSpec)

/-- ITS FALSE NEIGHBOUR: 'it returns false'. Refute it at one input. -/
def ownerPassesWrong : ChangeSpec := { name := "ownerPasses", fn := fun _ => fun
  | [d1, d2, d3, d4, d5] => { results := [.lit (.bool false)], args := [d1, d2, d3, d4, d5] }
  | _ => none }
def OwnerPassesWrongFalsely : Prop := ownerPassesRow.holds Try.pinned (OpenSpec.ofChange ownerPassesWrong)

/-- 'skywaykeep3.OwnerShares': WHATEVER THE INPUT: true; the input reads as it did. -/
def ownerSharesSpec : ChangeSpec := { name := "ownerShares", fn := fun _ => fun
  | [d] => { results := [.lit (.bool true)], args := [d] }
  | _ => none }
def ownerSharesRow : OpenClaim := { program := "ytekjoddmohjpbaa", sum := "5b9ced352fa8531450950afeade6132bc93f749eb9cceb74fb77acd20d5a1cae", func := "skyway/skywaykeep3.OwnerShares", spec := "ownerShares", inPlace := ["slices.overlaps[skyway/api.OwnerEntry]"], unfollowed := true, recurses := true, apart := false }
def OwnerSharesSaid : Prop := ownerSharesRow.holds Try.pinned (OpenSpec.ofChange ownerSharesSpec)

/-- ITS FALSE NEIGHBOUR: 'it returns false'. Refute it at one input. -/
def ownerSharesWrong : ChangeSpec := { name := "ownerShares", fn := fun _ => fun
  | [d] => { results := [.lit (.bool false)], args := [d] }
  | _ => none }
def OwnerSharesWrongFalsely : Prop := ownerSharesRow.holds Try.pinned (OpenSpec.ofChange ownerSharesWrong)

/-- 'skywaykeep3.OwnerMerges': WHATEVER THE INPUT: true; the input reads as it did. -/
def ownerMergesSpec : ChangeSpec := { name := "ownerMerges", fn := fun _ => fun
  | [d1, d2, d3] => { results := [.lit (.bool true)], args := [d1, d2, d3] }
  | _ => none }
def ownerMergesRow : OpenClaim := { program := "ytekjoddmohjpbaa", sum := "5b9ced352fa8531450950afeade6132bc93f749eb9cceb74fb77acd20d5a1cae", func := "skyway/skywaykeep3.OwnerMerges", spec := "ownerMerges", inPlace := ["slices.overlaps[skyway/api.OwnerEntry]"], unfollowed := true, recurses := true, apart := false }
def OwnerMergesSaid : Prop := ownerMergesRow.holds Try.pinned (OpenSpec.ofChange ownerMergesSpec)

/-- ITS FALSE NEIGHBOUR: 'it returns false'. Refute it at one input. -/
def ownerMergesWrong : ChangeSpec := { name := "ownerMerges", fn := fun _ => fun
  | [d1, d2, d3] => { results := [.lit (.bool false)], args := [d1, d2, d3] }
  | _ => none }
def OwnerMergesWrongFalsely : Prop := ownerMergesRow.holds Try.pinned (OpenSpec.ofChange ownerMergesWrong)

/- THE SECOND FORM. 'bulk': how many values and letters a reading holds, each counted each time it is reached (what is shared counts as often as it is met; a slice's spare places count too). A statement '..UptoSaid' is the law's where the arguments, and the package variables that the reading takes, are together of bulk at most 1048576: NARROWER than '..Said'. Prove '..Said' where nothing that the law and all that it calls make is longer than what came in: it says more and counts as full. Else prove '..UptoSaid'. A law counts once. -/
mutual
def uptoBulk {H : Type} : DataW H → Nat
  | .lit (.string bytes) => bytes.length + 1
  | .lit _ => 1
  | .nil => 1
  | .ptr d => uptoBulk d + 1
  | .slice elems spare => uptoBulkAll elems + uptoBulkAll spare + 1
  | .agg parts => uptoBulkAll parts + 1
  | .iface _ d => uptoBulk d + 1
  | .map entries => uptoBulkEntries entries + 1
  | .held _ => 1
def uptoBulkAll {H : Type} : List (DataW H) → Nat
  | [] => 0
  | d :: r => uptoBulk d + uptoBulkAll r
def uptoBulkEntries {H : Type} : List (Lit × DataW H) → Nat
  | [] => 0
  | x :: r => uptoBulkEntry x + uptoBulkEntries r
def uptoBulkEntry {H : Type} : Lit × DataW H → Nat
  | (.string bytes, d) => bytes.length + uptoBulk d + 1
  | (_, d) => uptoBulk d + 1
 end
def uptoSmall : (H : Type) → List (DataW H) → Bool := fun _ ds => decide (uptoBulkAll ds ≤ 1048576)
def OpenSpec.upto (s : _root_.Go.ChangeSpec) : _root_.Go.OpenSpec := { _root_.Go.OpenSpec.ofChange s with cond := some uptoSmall }

/-- 'skywaykeep3.OwnerPasses', WHERE WHAT IT READS IS OF BULK AT MOST 1048576: true; the input reads as it did. -/
def ownerPassesUptoRow : OpenClaim := { program := "ytekjoddmohjpbaa", sum := "5b9ced352fa8531450950afeade6132bc93f749eb9cceb74fb77acd20d5a1cae", func := "skyway/skywaykeep3.OwnerPasses", spec := "ownerPasses", inPlace := ["slices.overlaps[skyway/api.OwnerEntry]"], unfollowed := true, recurses := true, apart := false, narrowed := true }
def OwnerPassesUptoSaid : Prop := ownerPassesUptoRow.holds Try.pinned (OpenSpec.upto ownerPassesSpec)

/-- 'skywaykeep3.OwnerShares', WHERE WHAT IT READS IS OF BULK AT MOST 1048576: true; the input reads as it did. -/
def ownerSharesUptoRow : OpenClaim := { program := "ytekjoddmohjpbaa", sum := "5b9ced352fa8531450950afeade6132bc93f749eb9cceb74fb77acd20d5a1cae", func := "skyway/skywaykeep3.OwnerShares", spec := "ownerShares", inPlace := ["slices.overlaps[skyway/api.OwnerEntry]"], unfollowed := true, recurses := true, apart := false, narrowed := true }
def OwnerSharesUptoSaid : Prop := ownerSharesUptoRow.holds Try.pinned (OpenSpec.upto ownerSharesSpec)

/-- 'skywaykeep3.OwnerMerges', WHERE WHAT IT READS IS OF BULK AT MOST 1048576: true; the input reads as it did. -/
def ownerMergesUptoRow : OpenClaim := { program := "ytekjoddmohjpbaa", sum := "5b9ced352fa8531450950afeade6132bc93f749eb9cceb74fb77acd20d5a1cae", func := "skyway/skywaykeep3.OwnerMerges", spec := "ownerMerges", inPlace := ["slices.overlaps[skyway/api.OwnerEntry]"], unfollowed := true, recurses := true, apart := false, narrowed := true }
def OwnerMergesUptoSaid : Prop := ownerMergesUptoRow.holds Try.pinned (OpenSpec.upto ownerMergesSpec)

end Rows
end Go.Proofs.Ytekjoddmohjpbaa
