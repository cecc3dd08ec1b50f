/-
  No cell of these rows narrows 'for every input' (looked for: loops, veiled, ifaces, maps, wideKeys, modest, calm, conditions, laid).
  DERIVED. THE GIVEN ROWS OF THIS SEAT. 6 by the template 'for every input the law returns true; each argument reads behind the call as it read before'; 0 by the template 'total and deterministic' (their statements: YtldiackagnjlgaaTotals.lean).
  GIVEN WITH THE SEED: the statements are not yours to turn. If you find one false, say at which input.
  Laid BY PROGRAM, IN A SANDBOX (cutbox-rows.mjs): the forced cells as the released guide's own fill.sh prints them over the translation 5fea92022d031cda… (all of the seat's roots in one cut). By AI agents, Wed Nov 11 2026. No macro, syntax, notation, axiom, sorry.
-/
import Derived.Test.YtldiackagnjlgaaChecked
import GoSem.Claim
import GoSem.ClaimJoined
import GoSem.ClaimMapViews
import Derived.JoinedTies
import Derived.KernelRfl
namespace Go.Proofs.Ytldiackagnjlgaa
/- THE CELL 'sum', in the pinned program and in every row, IS THE sha256 OF THE DUMP (.gsa) THAT YtldiackagnjlgaaProg.lean LOADS. Nothing in Lean hashes anything: it is a label: what it is worth is what the hold of that sum in a sandbox is worth. -/
noncomputable def Try.pinned : Pinned := { name := "ytldiackagnjlgaa", sum := "5fea92022d031cda1e40715edc7035d53bae7d14a9fba2740e30bc7f5fe84da5", checked := Try.checked }
namespace Rows
def none {H : Type} : Left H := { results := [], args := [] }

/-- 'skywaykeep3.SectorVisits': WHATEVER THE INPUT: true; the input reads as it did. -/
def sectorVisitsSpec : ChangeSpec := { name := "sectorVisits", fn := fun _ => fun
  | [d1, d2] => { results := [.lit (.bool true)], args := [d1, d2] }
  | _ => none }
def sectorVisitsRow : OpenClaim := { program := "ytldiackagnjlgaa", sum := "5fea92022d031cda1e40715edc7035d53bae7d14a9fba2740e30bc7f5fe84da5", func := "skyway/skywaykeep3.SectorVisits", spec := "sectorVisits", unfollowed := true, recurses := true, apart := false }
def SectorVisitsSaid : Prop := sectorVisitsRow.holds Try.pinned (OpenSpec.ofChange sectorVisitsSpec)

/-- ITS FALSE NEIGHBOUR: 'it returns false'. Refute it at one input. -/
def sectorVisitsWrong : ChangeSpec := { name := "sectorVisits", fn := fun _ => fun
  | [d1, d2] => { results := [.lit (.bool false)], args := [d1, d2] }
  | _ => none }
def SectorVisitsWrongFalsely : Prop := sectorVisitsRow.holds Try.pinned (OpenSpec.ofChange sectorVisitsWrong)

/-- 'skywaykeep3.SectorCovers': WHATEVER THE INPUT: true; the input reads as it did. -/
def sectorCoversSpec : ChangeSpec := { name := "sectorCovers", fn := fun _ => fun
  | [d1, d2, d3, d4] => { results := [.lit (.bool true)], args := [d1, d2, d3, d4] }
  | _ => none }
def sectorCoversRow : OpenClaim := { program := "ytldiackagnjlgaa", sum := "5fea92022d031cda1e40715edc7035d53bae7d14a9fba2740e30bc7f5fe84da5", func := "skyway/skywaykeep3.SectorCovers", spec := "sectorCovers", unfollowed := true, recurses := true, apart := false }
def SectorCoversSaid : Prop := sectorCoversRow.holds Try.pinned (OpenSpec.ofChange sectorCoversSpec)

/-- ITS FALSE NEIGHBOUR: 'it returns false'. Refute it at one input. -/
def sectorCoversWrong : ChangeSpec := { name := "sectorCovers", fn := fun _ => fun
  | [d1, d2, d3, d4] => { results := [.lit (.bool false)], args := [d1, d2, d3, d4] }
  | _ => none }
def SectorCoversWrongFalsely : Prop := sectorCoversRow.holds Try.pinned (OpenSpec.ofChange sectorCoversWrong)

/-- 'skywaykeep3.SectorShares': WHATEVER THE INPUT: true; the input reads as it did. -/
def sectorSharesSpec : ChangeSpec := { name := "sectorShares", fn := fun _ => fun
  | [d1, d2, d3] => { results := [.lit (.bool true)], args := [d1, d2, d3] }
  | _ => none }
def sectorSharesRow : OpenClaim := { program := "ytldiackagnjlgaa", sum := "5fea92022d031cda1e40715edc7035d53bae7d14a9fba2740e30bc7f5fe84da5", func := "skyway/skywaykeep3.SectorShares", spec := "sectorShares", unfollowed := true, recurses := true, apart := false }
def SectorSharesSaid : Prop := sectorSharesRow.holds Try.pinned (OpenSpec.ofChange sectorSharesSpec)

/-- ITS FALSE NEIGHBOUR: 'it returns false'. Refute it at one input. -/
def sectorSharesWrong : ChangeSpec := { name := "sectorShares", fn := fun _ => fun
  | [d1, d2, d3] => { results := [.lit (.bool false)], args := [d1, d2, d3] }
  | _ => none }
def SectorSharesWrongFalsely : Prop := sectorSharesRow.holds Try.pinned (OpenSpec.ofChange sectorSharesWrong)

/-- 'skywaykeep3.SectorShifts': WHATEVER THE INPUT: true; the input reads as it did. -/
def sectorShiftsSpec : ChangeSpec := { name := "sectorShifts", fn := fun _ => fun
  | [d1, d2, d3] => { results := [.lit (.bool true)], args := [d1, d2, d3] }
  | _ => none }
def sectorShiftsRow : OpenClaim := { program := "ytldiackagnjlgaa", sum := "5fea92022d031cda1e40715edc7035d53bae7d14a9fba2740e30bc7f5fe84da5", func := "skyway/skywaykeep3.SectorShifts", spec := "sectorShifts", unfollowed := true, recurses := true, apart := false }
def SectorShiftsSaid : Prop := sectorShiftsRow.holds Try.pinned (OpenSpec.ofChange sectorShiftsSpec)

/-- ITS FALSE NEIGHBOUR: 'it returns false'. Refute it at one input. -/
def sectorShiftsWrong : ChangeSpec := { name := "sectorShifts", fn := fun _ => fun
  | [d1, d2, d3] => { results := [.lit (.bool false)], args := [d1, d2, d3] }
  | _ => none }
def SectorShiftsWrongFalsely : Prop := sectorShiftsRow.holds Try.pinned (OpenSpec.ofChange sectorShiftsWrong)

/-- 'skywaykeep3.LoadSums': WHATEVER THE INPUT: true; the input reads as it did. -/
def loadSumsSpec : ChangeSpec := { name := "loadSums", fn := fun _ => fun
  | [d1, d2, d3] => { results := [.lit (.bool true)], args := [d1, d2, d3] }
  | _ => none }
def loadSumsRow : OpenClaim := { program := "ytldiackagnjlgaa", sum := "5fea92022d031cda1e40715edc7035d53bae7d14a9fba2740e30bc7f5fe84da5", func := "skyway/skywaykeep3.LoadSums", spec := "loadSums", unfollowed := true, recurses := true, apart := false }
def LoadSumsSaid : Prop := loadSumsRow.holds Try.pinned (OpenSpec.ofChange loadSumsSpec)

/-- ITS FALSE NEIGHBOUR: 'it returns false'. Refute it at one input. -/
def loadSumsWrong : ChangeSpec := { name := "loadSums", fn := fun _ => fun
  | [d1, d2, d3] => { results := [.lit (.bool false)], args := [d1, d2, d3] }
  | _ => none }
def LoadSumsWrongFalsely : Prop := loadSumsRow.holds Try.pinned (OpenSpec.ofChange loadSumsWrong)

/-- 'skywaykeep3.LoadAdds': WHATEVER THE INPUT: true; the input reads as it did. -/
def loadAddsSpec : ChangeSpec := { name := "loadAdds", fn := fun _ => fun
  | [d1, d2, d3, d4] => { results := [.lit (.bool true)], args := [d1, d2, d3, d4] }
  | _ => none }
def loadAddsRow : OpenClaim := { program := "ytldiackagnjlgaa", sum := "5fea92022d031cda1e40715edc7035d53bae7d14a9fba2740e30bc7f5fe84da5", func := "skyway/skywaykeep3.LoadAdds", spec := "loadAdds", unfollowed := true, recurses := true, apart := false }
def LoadAddsSaid : Prop := loadAddsRow.holds Try.pinned (OpenSpec.ofChange loadAddsSpec)

/-- ITS FALSE NEIGHBOUR: 'it returns false'. Refute it at one input. -/
def loadAddsWrong : ChangeSpec := { name := "loadAdds", fn := fun _ => fun
  | [d1, d2, d3, d4] => { results := [.lit (.bool false)], args := [d1, d2, d3, d4] }
  | _ => none }
def LoadAddsWrongFalsely : Prop := loadAddsRow.holds Try.pinned (OpenSpec.ofChange loadAddsWrong)

/- THE SECOND FORM. 'bulk': how many values and letters a reading holds, each counted each time it is reached (what is shared counts as often as it is met; a slice's spare places count too). A statement '..UptoSaid' is the law's where the arguments, and the package variables that the reading takes, are together of bulk at most 1048576: NARROWER than '..Said'. Prove '..Said' where nothing that the law and all that it calls make is longer than what came in: it says more and counts as full. Else prove '..UptoSaid'. A law counts once. -/
mutual
def uptoBulk {H : Type} : DataW H → Nat
  | .lit (.string bytes) => bytes.length + 1
  | .lit _ => 1
  | .nil => 1
  | .ptr d => uptoBulk d + 1
  | .slice elems spare => uptoBulkAll elems + uptoBulkAll spare + 1
  | .agg parts => uptoBulkAll parts + 1
  | .iface _ d => uptoBulk d + 1
  | .map entries => uptoBulkEntries entries + 1
  | .held _ => 1
def uptoBulkAll {H : Type} : List (DataW H) → Nat
  | [] => 0
  | d :: r => uptoBulk d + uptoBulkAll r
def uptoBulkEntries {H : Type} : List (Lit × DataW H) → Nat
  | [] => 0
  | x :: r => uptoBulkEntry x + uptoBulkEntries r
def uptoBulkEntry {H : Type} : Lit × DataW H → Nat
  | (.string bytes, d) => bytes.length + uptoBulk d + 1
  | (_, d) => uptoBulk d + 1
 end
def uptoSmall : (H : Type) → List (DataW H) → Bool := fun _ ds => decide (uptoBulkAll ds ≤ 1048576)
def OpenSpec.upto (s : _root_.Go.ChangeSpec) : _root_.Go.OpenSpec := { _root_.Go.OpenSpec.ofChange s with cond := some uptoSmall }

/-- 'skywaykeep3.SectorVisits', WHERE WHAT IT READS IS OF BULK AT MOST 1048576: true; the input reads as it did. -/
def sectorVisitsUptoRow : OpenClaim := { program := "ytldiackagnjlgaa", sum := "5fea92022d031cda1e40715edc7035d53bae7d14a9fba2740e30bc7f5fe84da5", func := "skyway/skywaykeep3.SectorVisits", spec := "sectorVisits", unfollowed := true, recurses := true, apart := false, narrowed := true }
def SectorVisitsUptoSaid : Prop := sectorVisitsUptoRow.holds Try.pinned (OpenSpec.upto sectorVisitsSpec)

/-- 'skywaykeep3.SectorCovers', WHERE WHAT IT READS IS OF BULK AT MOST 1048576: true; the input reads as it did. -/
def sectorCoversUptoRow : OpenClaim := { program := "ytldiackagnjlgaa", sum := "5fea92022d031cda1e40715edc7035d53bae7d14a9fba2740e30bc7f5fe84da5", func := "skyway/skywaykeep3.SectorCovers", spec := "sectorCovers", unfollowed := true, recurses := true, apart := false, narrowed := true }
def SectorCoversUptoSaid : Prop := sectorCoversUptoRow.holds Try.pinned (OpenSpec.upto sectorCoversSpec)

/-- 'skywaykeep3.SectorShares', WHERE WHAT IT READS IS OF BULK AT MOST 1048576: true; the input reads as it did. -/
def sectorSharesUptoRow : OpenClaim := { program := "ytldiackagnjlgaa", sum := "5fea92022d031cda1e40715edc7035d53bae7d14a9fba2740e30bc7f5fe84da5", func := "skyway/skywaykeep3.SectorShares", spec := "sectorShares", unfollowed := true, recurses := true, apart := false, narrowed := true }
def SectorSharesUptoSaid : Prop := sectorSharesUptoRow.holds Try.pinned (OpenSpec.upto sectorSharesSpec)

/-- 'skywaykeep3.SectorShifts', WHERE WHAT IT READS IS OF BULK AT MOST 1048576: true; the input reads as it did. -/
def sectorShiftsUptoRow : OpenClaim := { program := "ytldiackagnjlgaa", sum := "5fea92022d031cda1e40715edc7035d53bae7d14a9fba2740e30bc7f5fe84da5", func := "skyway/skywaykeep3.SectorShifts", spec := "sectorShifts", unfollowed := true, recurses := true, apart := false, narrowed := true }
def SectorShiftsUptoSaid : Prop := sectorShiftsUptoRow.holds Try.pinned (OpenSpec.upto sectorShiftsSpec)

/-- 'skywaykeep3.LoadSums', WHERE WHAT IT READS IS OF BULK AT MOST 1048576: true; the input reads as it did. -/
def loadSumsUptoRow : OpenClaim := { program := "ytldiackagnjlgaa", sum := "5fea92022d031cda1e40715edc7035d53bae7d14a9fba2740e30bc7f5fe84da5", func := "skyway/skywaykeep3.LoadSums", spec := "loadSums", unfollowed := true, recurses := true, apart := false, narrowed := true }
def LoadSumsUptoSaid : Prop := loadSumsUptoRow.holds Try.pinned (OpenSpec.upto loadSumsSpec)

/-- 'skywaykeep3.LoadAdds', WHERE WHAT IT READS IS OF BULK AT MOST 1048576: true; the input reads as it did. -/
def loadAddsUptoRow : OpenClaim := { program := "ytldiackagnjlgaa", sum := "5fea92022d031cda1e40715edc7035d53bae7d14a9fba2740e30bc7f5fe84da5", func := "skyway/skywaykeep3.LoadAdds", spec := "loadAdds", unfollowed := true, recurses := true, apart := false, narrowed := true }
def LoadAddsUptoSaid : Prop := loadAddsUptoRow.holds Try.pinned (OpenSpec.upto loadAddsSpec)

end Rows
end Go.Proofs.Ytldiackagnjlgaa
