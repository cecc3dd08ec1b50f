/-
  No cell of these rows narrows 'for every input' (looked for: loops, veiled, ifaces, maps, wideKeys, modest, calm, conditions, laid).
  DERIVED. THE GIVEN ROWS OF THIS SEAT. 4 by the template 'for every input the law returns true; each argument reads behind the call as it read before'; 0 by the template 'total and deterministic' (their statements: YtlgbioidkbeanaaTotals.lean).
  GIVEN WITH THE SEED: the statements are not yours to turn. If you find one false, say at which input.
  Laid BY PROGRAM, IN A SANDBOX (cutbox-rows.mjs): the forced cells as the released guide's own fill.sh prints them over the translation 551ced6f5fcef5a6… (all of the seat's roots in one cut). By AI agents, Wed Nov 11 2026. No macro, syntax, notation, axiom, sorry.
-/
import Derived.Test.YtlgbioidkbeanaaChecked
import GoSem.Claim
import GoSem.ClaimJoined
import GoSem.ClaimMapViews
import Derived.JoinedTies
import Derived.KernelRfl
namespace Go.Proofs.Ytlgbioidkbeanaa
/- THE CELL 'sum', in the pinned program and in every row, IS THE sha256 OF THE DUMP (.gsa) THAT YtlgbioidkbeanaaProg.lean LOADS. Nothing in Lean hashes anything: it is a label: what it is worth is what the hold of that sum in a sandbox is worth. -/
noncomputable def Try.pinned : Pinned := { name := "ytlgbioidkbeanaa", sum := "551ced6f5fcef5a615797c2bac3b9479f0e04ca03efa6744004a3ca0c9cc00cf", checked := Try.checked }
namespace Rows
def none {H : Type} : Left H := { results := [], args := [] }

/-- 'skywaykeep3.JointEither': WHATEVER THE INPUT: true; the input reads as it did. -/
def jointEitherSpec : ChangeSpec := { name := "jointEither", fn := fun _ => fun
  | [d1, d2] => { results := [.lit (.bool true)], args := [d1, d2] }
  | _ => none }
def jointEitherRow : OpenClaim := { program := "ytlgbioidkbeanaa", sum := "551ced6f5fcef5a615797c2bac3b9479f0e04ca03efa6744004a3ca0c9cc00cf", func := "skyway/skywaykeep3.JointEither", spec := "jointEither", unfollowed := true, recurses := true, plainKeys := false, apart := false }
def JointEitherSaid : Prop := jointEitherRow.holds Try.pinned (OpenSpec.ofChange jointEitherSpec)

/-- ITS FALSE NEIGHBOUR: 'it returns false'. Refute it at one input. -/
def jointEitherWrong : ChangeSpec := { name := "jointEither", fn := fun _ => fun
  | [d1, d2] => { results := [.lit (.bool false)], args := [d1, d2] }
  | _ => none }
def JointEitherWrongFalsely : Prop := jointEitherRow.holds Try.pinned (OpenSpec.ofChange jointEitherWrong)

/-- 'skywaykeep3.JointMore': WHATEVER THE INPUT: true; the input reads as it did. -/
def jointMoreSpec : ChangeSpec := { name := "jointMore", fn := fun _ => fun
  | [d1, d2, d3, d4] => { results := [.lit (.bool true)], args := [d1, d2, d3, d4] }
  | _ => none }
def jointMoreRow : OpenClaim := { program := "ytlgbioidkbeanaa", sum := "551ced6f5fcef5a615797c2bac3b9479f0e04ca03efa6744004a3ca0c9cc00cf", func := "skyway/skywaykeep3.JointMore", spec := "jointMore", unfollowed := true, recurses := true, plainKeys := false, apart := false }
def JointMoreSaid : Prop := jointMoreRow.holds Try.pinned (OpenSpec.ofChange jointMoreSpec)

/-- ITS FALSE NEIGHBOUR: 'it returns false'. Refute it at one input. -/
def jointMoreWrong : ChangeSpec := { name := "jointMore", fn := fun _ => fun
  | [d1, d2, d3, d4] => { results := [.lit (.bool false)], args := [d1, d2, d3, d4] }
  | _ => none }
def JointMoreWrongFalsely : Prop := jointMoreRow.holds Try.pinned (OpenSpec.ofChange jointMoreWrong)

/-- 'skywaykeep3.JointNeeds': WHATEVER THE INPUT: true; the input reads as it did. -/
def jointNeedsSpec : ChangeSpec := { name := "jointNeeds", fn := fun _ => fun
  | [d1, d2, d3, d4] => { results := [.lit (.bool true)], args := [d1, d2, d3, d4] }
  | _ => none }
def jointNeedsRow : OpenClaim := { program := "ytlgbioidkbeanaa", sum := "551ced6f5fcef5a615797c2bac3b9479f0e04ca03efa6744004a3ca0c9cc00cf", func := "skyway/skywaykeep3.JointNeeds", spec := "jointNeeds", inPlace := ["slices.overlaps[skyway/api.JointRefuted]"], unfollowed := true, recurses := true, plainKeys := false, apart := false }
def JointNeedsSaid : Prop := jointNeedsRow.holds Try.pinned (OpenSpec.ofChange jointNeedsSpec)

/-- ITS FALSE NEIGHBOUR: 'it returns false'. Refute it at one input. -/
def jointNeedsWrong : ChangeSpec := { name := "jointNeeds", fn := fun _ => fun
  | [d1, d2, d3, d4] => { results := [.lit (.bool false)], args := [d1, d2, d3, d4] }
  | _ => none }
def JointNeedsWrongFalsely : Prop := jointNeedsRow.holds Try.pinned (OpenSpec.ofChange jointNeedsWrong)

/-- 'skywaykeep3.JointFree': WHATEVER THE INPUT: true; the input reads as it did. -/
def jointFreeSpec : ChangeSpec := { name := "jointFree", fn := fun _ => fun
  | [d1, d2] => { results := [.lit (.bool true)], args := [d1, d2] }
  | _ => none }
def jointFreeRow : OpenClaim := { program := "ytlgbioidkbeanaa", sum := "551ced6f5fcef5a615797c2bac3b9479f0e04ca03efa6744004a3ca0c9cc00cf", func := "skyway/skywaykeep3.JointFree", spec := "jointFree", unfollowed := true, recurses := true, plainKeys := false, apart := false }
def JointFreeSaid : Prop := jointFreeRow.holds Try.pinned (OpenSpec.ofChange jointFreeSpec)

/-- ITS FALSE NEIGHBOUR: 'it returns false'. Refute it at one input. -/
def jointFreeWrong : ChangeSpec := { name := "jointFree", fn := fun _ => fun
  | [d1, d2] => { results := [.lit (.bool false)], args := [d1, d2] }
  | _ => none }
def JointFreeWrongFalsely : Prop := jointFreeRow.holds Try.pinned (OpenSpec.ofChange jointFreeWrong)

/- THE SECOND FORM. 'bulk': how many values and letters a reading holds, each counted each time it is reached (what is shared counts as often as it is met; a slice's spare places count too). A statement '..UptoSaid' is the law's where the arguments, and the package variables that the reading takes, are together of bulk at most 1048576: NARROWER than '..Said'. Prove '..Said' where nothing that the law and all that it calls make is longer than what came in: it says more and counts as full. Else prove '..UptoSaid'. A law counts once. -/
mutual
def uptoBulk {H : Type} : DataW H → Nat
  | .lit (.string bytes) => bytes.length + 1
  | .lit _ => 1
  | .nil => 1
  | .ptr d => uptoBulk d + 1
  | .slice elems spare => uptoBulkAll elems + uptoBulkAll spare + 1
  | .agg parts => uptoBulkAll parts + 1
  | .iface _ d => uptoBulk d + 1
  | .map entries => uptoBulkEntries entries + 1
  | .held _ => 1
def uptoBulkAll {H : Type} : List (DataW H) → Nat
  | [] => 0
  | d :: r => uptoBulk d + uptoBulkAll r
def uptoBulkEntries {H : Type} : List (Lit × DataW H) → Nat
  | [] => 0
  | x :: r => uptoBulkEntry x + uptoBulkEntries r
def uptoBulkEntry {H : Type} : Lit × DataW H → Nat
  | (.string bytes, d) => bytes.length + uptoBulk d + 1
  | (_, d) => uptoBulk d + 1
 end
def uptoSmall : (H : Type) → List (DataW H) → Bool := fun _ ds => decide (uptoBulkAll ds ≤ 1048576)
def OpenSpec.upto (s : _root_.Go.ChangeSpec) : _root_.Go.OpenSpec := { _root_.Go.OpenSpec.ofChange s with cond := some uptoSmall }

/-- 'skywaykeep3.JointEither', WHERE WHAT IT READS IS OF BULK AT MOST 1048576: true; the input reads as it did. -/
def jointEitherUptoRow : OpenClaim := { program := "ytlgbioidkbeanaa", sum := "551ced6f5fcef5a615797c2bac3b9479f0e04ca03efa6744004a3ca0c9cc00cf", func := "skyway/skywaykeep3.JointEither", spec := "jointEither", unfollowed := true, recurses := true, plainKeys := false, apart := false, narrowed := true }
def JointEitherUptoSaid : Prop := jointEitherUptoRow.holds Try.pinned (OpenSpec.upto jointEitherSpec)

/-- 'skywaykeep3.JointMore', WHERE WHAT IT READS IS OF BULK AT MOST 1048576: true; the input reads as it did. -/
def jointMoreUptoRow : OpenClaim := { program := "ytlgbioidkbeanaa", sum := "551ced6f5fcef5a615797c2bac3b9479f0e04ca03efa6744004a3ca0c9cc00cf", func := "skyway/skywaykeep3.JointMore", spec := "jointMore", unfollowed := true, recurses := true, plainKeys := false, apart := false, narrowed := true }
def JointMoreUptoSaid : Prop := jointMoreUptoRow.holds Try.pinned (OpenSpec.upto jointMoreSpec)

/-- 'skywaykeep3.JointNeeds', WHERE WHAT IT READS IS OF BULK AT MOST 1048576: true; the input reads as it did. -/
def jointNeedsUptoRow : OpenClaim := { program := "ytlgbioidkbeanaa", sum := "551ced6f5fcef5a615797c2bac3b9479f0e04ca03efa6744004a3ca0c9cc00cf", func := "skyway/skywaykeep3.JointNeeds", spec := "jointNeeds", inPlace := ["slices.overlaps[skyway/api.JointRefuted]"], unfollowed := true, recurses := true, plainKeys := false, apart := false, narrowed := true }
def JointNeedsUptoSaid : Prop := jointNeedsUptoRow.holds Try.pinned (OpenSpec.upto jointNeedsSpec)

/-- 'skywaykeep3.JointFree', WHERE WHAT IT READS IS OF BULK AT MOST 1048576: true; the input reads as it did. -/
def jointFreeUptoRow : OpenClaim := { program := "ytlgbioidkbeanaa", sum := "551ced6f5fcef5a615797c2bac3b9479f0e04ca03efa6744004a3ca0c9cc00cf", func := "skyway/skywaykeep3.JointFree", spec := "jointFree", unfollowed := true, recurses := true, plainKeys := false, apart := false, narrowed := true }
def JointFreeUptoSaid : Prop := jointFreeUptoRow.holds Try.pinned (OpenSpec.upto jointFreeSpec)

end Rows
end Go.Proofs.Ytlgbioidkbeanaa
