/-
  No cell of these rows narrows 'for every input' (looked for: loops, veiled, ifaces, maps, wideKeys, modest, calm, conditions, laid).
  DERIVED. THE GIVEN ROWS OF THIS SEAT. 8 by the template 'for every input the law returns true; each argument reads behind the call as it read before'; 0 by the template 'total and deterministic' (their statements: YtfmodgffhbljoaaTotals.lean).
  GIVEN WITH THE SEED: the statements are not yours to turn. If you find one false, say at which input.
  Laid BY PROGRAM, IN A SANDBOX (cutbox-rows.mjs): the forced cells as the released guide's own fill.sh prints them over the translation f5ee877a20cff191… (all of the seat's roots in one cut). By AI agents, Wed Nov 11 2026. No macro, syntax, notation, axiom, sorry.
-/
import Derived.Test.YtfmodgffhbljoaaChecked
import GoSem.Claim
import GoSem.ClaimJoined
import GoSem.ClaimMapViews
import Derived.JoinedTies
import Derived.KernelRfl
namespace Go.Proofs.Ytfmodgffhbljoaa
/- THE CELL 'sum', in the pinned program and in every row, IS THE sha256 OF THE DUMP (.gsa) THAT YtfmodgffhbljoaaProg.lean LOADS. Nothing in Lean hashes anything: it is a label: what it is worth is what the hold of that sum in a sandbox is worth. -/
noncomputable def Try.pinned : Pinned := { name := "ytfmodgffhbljoaa", sum := "f5ee877a20cff1912f86ad79a383176ed79ebac5de080011eca3ba4a398fabd7", checked := Try.checked }
namespace Rows
def none {H : Type} : Left H := { results := [], args := [] }

/-- 'skywaykeep3.WakePasses': WHATEVER THE INPUT: true; the input reads as it did. -/
def wakePassesSpec : ChangeSpec := { name := "wakePasses", fn := fun _ => fun
  | [d1, d2, d3] => { results := [.lit (.bool true)], args := [d1, d2, d3] }
  | _ => none }
def wakePassesRow : OpenClaim := { program := "ytfmodgffhbljoaa", sum := "f5ee877a20cff1912f86ad79a383176ed79ebac5de080011eca3ba4a398fabd7", func := "skyway/skywaykeep3.WakePasses", spec := "wakePasses", apart := false }
def WakePassesSaid : Prop := wakePassesRow.holds Try.pinned (OpenSpec.ofChange wakePassesSpec)

/-- ITS FALSE NEIGHBOUR: 'it returns false'. Refute it at one input. -/
def wakePassesWrong : ChangeSpec := { name := "wakePasses", fn := fun _ => fun
  | [d1, d2, d3] => { results := [.lit (.bool false)], args := [d1, d2, d3] }
  | _ => none }
def WakePassesWrongFalsely : Prop := wakePassesRow.holds Try.pinned (OpenSpec.ofChange wakePassesWrong)

/-- 'skywaykeep3.WakeShifts': WHATEVER THE INPUT: true; the input reads as it did. -/
def wakeShiftsSpec : ChangeSpec := { name := "wakeShifts", fn := fun _ => fun
  | [d1, d2, d3, d4] => { results := [.lit (.bool true)], args := [d1, d2, d3, d4] }
  | _ => none }
def wakeShiftsRow : OpenClaim := { program := "ytfmodgffhbljoaa", sum := "f5ee877a20cff1912f86ad79a383176ed79ebac5de080011eca3ba4a398fabd7", func := "skyway/skywaykeep3.WakeShifts", spec := "wakeShifts", apart := false }
def WakeShiftsSaid : Prop := wakeShiftsRow.holds Try.pinned (OpenSpec.ofChange wakeShiftsSpec)

/-- ITS FALSE NEIGHBOUR: 'it returns false'. Refute it at one input. -/
def wakeShiftsWrong : ChangeSpec := { name := "wakeShifts", fn := fun _ => fun
  | [d1, d2, d3, d4] => { results := [.lit (.bool false)], args := [d1, d2, d3, d4] }
  | _ => none }
def WakeShiftsWrongFalsely : Prop := wakeShiftsRow.holds Try.pinned (OpenSpec.ofChange wakeShiftsWrong)

/-- 'skywaykeep3.RunwayTurns': WHATEVER THE INPUT: true; the input reads as it did. -/
def runwayTurnsSpec : ChangeSpec := { name := "runwayTurns", fn := fun _ => fun
  | [d1, d2, d3, d4] => { results := [.lit (.bool true)], args := [d1, d2, d3, d4] }
  | _ => none }
def runwayTurnsRow : OpenClaim := { program := "ytfmodgffhbljoaa", sum := "f5ee877a20cff1912f86ad79a383176ed79ebac5de080011eca3ba4a398fabd7", func := "skyway/skywaykeep3.RunwayTurns", spec := "runwayTurns", inPlace := ["slices.overlaps[skyway/api.RunwayMove]"], unfollowed := true, recurses := true, apart := false }
def RunwayTurnsSaid : Prop := runwayTurnsRow.holds Try.pinned (OpenSpec.ofChange runwayTurnsSpec)

/-- ITS FALSE NEIGHBOUR: 'it returns false'. Refute it at one input. -/
def runwayTurnsWrong : ChangeSpec := { name := "runwayTurns", fn := fun _ => fun
  | [d1, d2, d3, d4] => { results := [.lit (.bool false)], args := [d1, d2, d3, d4] }
  | _ => none }
def RunwayTurnsWrongFalsely : Prop := runwayTurnsRow.holds Try.pinned (OpenSpec.ofChange runwayTurnsWrong)

/-- 'skywaykeep3.RunwayStays': WHATEVER THE INPUT: true; the input reads as it did. -/
def runwayStaysSpec : ChangeSpec := { name := "runwayStays", fn := fun _ => fun
  | [d1, d2, d3, d4] => { results := [.lit (.bool true)], args := [d1, d2, d3, d4] }
  | _ => none }
def runwayStaysRow : OpenClaim := { program := "ytfmodgffhbljoaa", sum := "f5ee877a20cff1912f86ad79a383176ed79ebac5de080011eca3ba4a398fabd7", func := "skyway/skywaykeep3.RunwayStays", spec := "runwayStays", inPlace := ["slices.overlaps[skyway/api.RunwayMove]"], unfollowed := true, recurses := true, apart := false }
def RunwayStaysSaid : Prop := runwayStaysRow.holds Try.pinned (OpenSpec.ofChange runwayStaysSpec)

/-- ITS FALSE NEIGHBOUR: 'it returns false'. Refute it at one input. -/
def runwayStaysWrong : ChangeSpec := { name := "runwayStays", fn := fun _ => fun
  | [d1, d2, d3, d4] => { results := [.lit (.bool false)], args := [d1, d2, d3, d4] }
  | _ => none }
def RunwayStaysWrongFalsely : Prop := runwayStaysRow.holds Try.pinned (OpenSpec.ofChange runwayStaysWrong)

/-- 'skywaykeep3.RunwayKeeps': WHATEVER THE INPUT: true; the input reads as it did. -/
def runwayKeepsSpec : ChangeSpec := { name := "runwayKeeps", fn := fun _ => fun
  | [d1, d2, d3, d4] => { results := [.lit (.bool true)], args := [d1, d2, d3, d4] }
  | _ => none }
def runwayKeepsRow : OpenClaim := { program := "ytfmodgffhbljoaa", sum := "f5ee877a20cff1912f86ad79a383176ed79ebac5de080011eca3ba4a398fabd7", func := "skyway/skywaykeep3.RunwayKeeps", spec := "runwayKeeps", inPlace := ["slices.overlaps[skyway/api.RunwayMove]"], unfollowed := true, recurses := true, apart := false }
def RunwayKeepsSaid : Prop := runwayKeepsRow.holds Try.pinned (OpenSpec.ofChange runwayKeepsSpec)

/-- ITS FALSE NEIGHBOUR: 'it returns false'. Refute it at one input. -/
def runwayKeepsWrong : ChangeSpec := { name := "runwayKeeps", fn := fun _ => fun
  | [d1, d2, d3, d4] => { results := [.lit (.bool false)], args := [d1, d2, d3, d4] }
  | _ => none }
def RunwayKeepsWrongFalsely : Prop := runwayKeepsRow.holds Try.pinned (OpenSpec.ofChange runwayKeepsWrong)

/-- 'skywaykeep3.SequenceGains': WHATEVER THE INPUT: true; the input reads as it did. -/
def sequenceGainsSpec : ChangeSpec := { name := "sequenceGains", fn := fun _ => fun
  | [d1, d2, d3, d4] => { results := [.lit (.bool true)], args := [d1, d2, d3, d4] }
  | _ => none }
def sequenceGainsRow : OpenClaim := { program := "ytfmodgffhbljoaa", sum := "f5ee877a20cff1912f86ad79a383176ed79ebac5de080011eca3ba4a398fabd7", func := "skyway/skywaykeep3.SequenceGains", spec := "sequenceGains", unfollowed := true, recurses := true, apart := false }
def SequenceGainsSaid : Prop := sequenceGainsRow.holds Try.pinned (OpenSpec.ofChange sequenceGainsSpec)

/-- ITS FALSE NEIGHBOUR: 'it returns false'. Refute it at one input. -/
def sequenceGainsWrong : ChangeSpec := { name := "sequenceGains", fn := fun _ => fun
  | [d1, d2, d3, d4] => { results := [.lit (.bool false)], args := [d1, d2, d3, d4] }
  | _ => none }
def SequenceGainsWrongFalsely : Prop := sequenceGainsRow.holds Try.pinned (OpenSpec.ofChange sequenceGainsWrong)

/-- 'skywaykeep3.SequenceShifts': WHATEVER THE INPUT: true; the input reads as it did. -/
def sequenceShiftsSpec : ChangeSpec := { name := "sequenceShifts", fn := fun _ => fun
  | [d1, d2, d3, d4] => { results := [.lit (.bool true)], args := [d1, d2, d3, d4] }
  | _ => none }
def sequenceShiftsRow : OpenClaim := { program := "ytfmodgffhbljoaa", sum := "f5ee877a20cff1912f86ad79a383176ed79ebac5de080011eca3ba4a398fabd7", func := "skyway/skywaykeep3.SequenceShifts", spec := "sequenceShifts", unfollowed := true, recurses := true, apart := false }
def SequenceShiftsSaid : Prop := sequenceShiftsRow.holds Try.pinned (OpenSpec.ofChange sequenceShiftsSpec)

/-- ITS FALSE NEIGHBOUR: 'it returns false'. Refute it at one input. -/
def sequenceShiftsWrong : ChangeSpec := { name := "sequenceShifts", fn := fun _ => fun
  | [d1, d2, d3, d4] => { results := [.lit (.bool false)], args := [d1, d2, d3, d4] }
  | _ => none }
def SequenceShiftsWrongFalsely : Prop := sequenceShiftsRow.holds Try.pinned (OpenSpec.ofChange sequenceShiftsWrong)

/-- 'skywaykeep3.SequenceValid': WHATEVER THE INPUT: true; the input reads as it did. -/
def sequenceValidSpec : ChangeSpec := { name := "sequenceValid", fn := fun _ => fun
  | [d1, d2, d3] => { results := [.lit (.bool true)], args := [d1, d2, d3] }
  | _ => none }
def sequenceValidRow : OpenClaim := { program := "ytfmodgffhbljoaa", sum := "f5ee877a20cff1912f86ad79a383176ed79ebac5de080011eca3ba4a398fabd7", func := "skyway/skywaykeep3.SequenceValid", spec := "sequenceValid", unfollowed := true, recurses := true, apart := false }
def SequenceValidSaid : Prop := sequenceValidRow.holds Try.pinned (OpenSpec.ofChange sequenceValidSpec)

/-- ITS FALSE NEIGHBOUR: 'it returns false'. Refute it at one input. -/
def sequenceValidWrong : ChangeSpec := { name := "sequenceValid", fn := fun _ => fun
  | [d1, d2, d3] => { results := [.lit (.bool false)], args := [d1, d2, d3] }
  | _ => none }
def SequenceValidWrongFalsely : Prop := sequenceValidRow.holds Try.pinned (OpenSpec.ofChange sequenceValidWrong)

/- THE SECOND FORM. 'bulk': how many values and letters a reading holds, each counted each time it is reached (what is shared counts as often as it is met; a slice's spare places count too). A statement '..UptoSaid' is the law's where the arguments, and the package variables that the reading takes, are together of bulk at most 1048576: NARROWER than '..Said'. Prove '..Said' where nothing that the law and all that it calls make is longer than what came in: it says more and counts as full. Else prove '..UptoSaid'. A law counts once. -/
mutual
def uptoBulk {H : Type} : DataW H → Nat
  | .lit (.string bytes) => bytes.length + 1
  | .lit _ => 1
  | .nil => 1
  | .ptr d => uptoBulk d + 1
  | .slice elems spare => uptoBulkAll elems + uptoBulkAll spare + 1
  | .agg parts => uptoBulkAll parts + 1
  | .iface _ d => uptoBulk d + 1
  | .map entries => uptoBulkEntries entries + 1
  | .held _ => 1
def uptoBulkAll {H : Type} : List (DataW H) → Nat
  | [] => 0
  | d :: r => uptoBulk d + uptoBulkAll r
def uptoBulkEntries {H : Type} : List (Lit × DataW H) → Nat
  | [] => 0
  | x :: r => uptoBulkEntry x + uptoBulkEntries r
def uptoBulkEntry {H : Type} : Lit × DataW H → Nat
  | (.string bytes, d) => bytes.length + uptoBulk d + 1
  | (_, d) => uptoBulk d + 1
 end
def uptoSmall : (H : Type) → List (DataW H) → Bool := fun _ ds => decide (uptoBulkAll ds ≤ 1048576)
def OpenSpec.upto (s : _root_.Go.ChangeSpec) : _root_.Go.OpenSpec := { _root_.Go.OpenSpec.ofChange s with cond := some uptoSmall }

/-- 'skywaykeep3.WakePasses', WHERE WHAT IT READS IS OF BULK AT MOST 1048576: true; the input reads as it did. -/
def wakePassesUptoRow : OpenClaim := { program := "ytfmodgffhbljoaa", sum := "f5ee877a20cff1912f86ad79a383176ed79ebac5de080011eca3ba4a398fabd7", func := "skyway/skywaykeep3.WakePasses", spec := "wakePasses", apart := false, narrowed := true }
def WakePassesUptoSaid : Prop := wakePassesUptoRow.holds Try.pinned (OpenSpec.upto wakePassesSpec)

/-- 'skywaykeep3.WakeShifts', WHERE WHAT IT READS IS OF BULK AT MOST 1048576: true; the input reads as it did. -/
def wakeShiftsUptoRow : OpenClaim := { program := "ytfmodgffhbljoaa", sum := "f5ee877a20cff1912f86ad79a383176ed79ebac5de080011eca3ba4a398fabd7", func := "skyway/skywaykeep3.WakeShifts", spec := "wakeShifts", apart := false, narrowed := true }
def WakeShiftsUptoSaid : Prop := wakeShiftsUptoRow.holds Try.pinned (OpenSpec.upto wakeShiftsSpec)

/-- 'skywaykeep3.RunwayTurns', WHERE WHAT IT READS IS OF BULK AT MOST 1048576: true; the input reads as it did. -/
def runwayTurnsUptoRow : OpenClaim := { program := "ytfmodgffhbljoaa", sum := "f5ee877a20cff1912f86ad79a383176ed79ebac5de080011eca3ba4a398fabd7", func := "skyway/skywaykeep3.RunwayTurns", spec := "runwayTurns", inPlace := ["slices.overlaps[skyway/api.RunwayMove]"], unfollowed := true, recurses := true, apart := false, narrowed := true }
def RunwayTurnsUptoSaid : Prop := runwayTurnsUptoRow.holds Try.pinned (OpenSpec.upto runwayTurnsSpec)

/-- 'skywaykeep3.RunwayStays', WHERE WHAT IT READS IS OF BULK AT MOST 1048576: true; the input reads as it did. -/
def runwayStaysUptoRow : OpenClaim := { program := "ytfmodgffhbljoaa", sum := "f5ee877a20cff1912f86ad79a383176ed79ebac5de080011eca3ba4a398fabd7", func := "skyway/skywaykeep3.RunwayStays", spec := "runwayStays", inPlace := ["slices.overlaps[skyway/api.RunwayMove]"], unfollowed := true, recurses := true, apart := false, narrowed := true }
def RunwayStaysUptoSaid : Prop := runwayStaysUptoRow.holds Try.pinned (OpenSpec.upto runwayStaysSpec)

/-- 'skywaykeep3.RunwayKeeps', WHERE WHAT IT READS IS OF BULK AT MOST 1048576: true; the input reads as it did. -/
def runwayKeepsUptoRow : OpenClaim := { program := "ytfmodgffhbljoaa", sum := "f5ee877a20cff1912f86ad79a383176ed79ebac5de080011eca3ba4a398fabd7", func := "skyway/skywaykeep3.RunwayKeeps", spec := "runwayKeeps", inPlace := ["slices.overlaps[skyway/api.RunwayMove]"], unfollowed := true, recurses := true, apart := false, narrowed := true }
def RunwayKeepsUptoSaid : Prop := runwayKeepsUptoRow.holds Try.pinned (OpenSpec.upto runwayKeepsSpec)

/-- 'skywaykeep3.SequenceGains', WHERE WHAT IT READS IS OF BULK AT MOST 1048576: true; the input reads as it did. -/
def sequenceGainsUptoRow : OpenClaim := { program := "ytfmodgffhbljoaa", sum := "f5ee877a20cff1912f86ad79a383176ed79ebac5de080011eca3ba4a398fabd7", func := "skyway/skywaykeep3.SequenceGains", spec := "sequenceGains", unfollowed := true, recurses := true, apart := false, narrowed := true }
def SequenceGainsUptoSaid : Prop := sequenceGainsUptoRow.holds Try.pinned (OpenSpec.upto sequenceGainsSpec)

/-- 'skywaykeep3.SequenceShifts', WHERE WHAT IT READS IS OF BULK AT MOST 1048576: true; the input reads as it did. -/
def sequenceShiftsUptoRow : OpenClaim := { program := "ytfmodgffhbljoaa", sum := "f5ee877a20cff1912f86ad79a383176ed79ebac5de080011eca3ba4a398fabd7", func := "skyway/skywaykeep3.SequenceShifts", spec := "sequenceShifts", unfollowed := true, recurses := true, apart := false, narrowed := true }
def SequenceShiftsUptoSaid : Prop := sequenceShiftsUptoRow.holds Try.pinned (OpenSpec.upto sequenceShiftsSpec)

/-- 'skywaykeep3.SequenceValid', WHERE WHAT IT READS IS OF BULK AT MOST 1048576: true; the input reads as it did. -/
def sequenceValidUptoRow : OpenClaim := { program := "ytfmodgffhbljoaa", sum := "f5ee877a20cff1912f86ad79a383176ed79ebac5de080011eca3ba4a398fabd7", func := "skyway/skywaykeep3.SequenceValid", spec := "sequenceValid", unfollowed := true, recurses := true, apart := false, narrowed := true }
def SequenceValidUptoSaid : Prop := sequenceValidUptoRow.holds Try.pinned (OpenSpec.upto sequenceValidSpec)

end Rows
end Go.Proofs.Ytfmodgffhbljoaa
