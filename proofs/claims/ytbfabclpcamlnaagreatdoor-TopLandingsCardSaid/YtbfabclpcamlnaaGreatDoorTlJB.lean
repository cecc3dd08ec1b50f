/- A part. -/
import Derived.Test.YtbfabclpcamlnaaGreatDoorRows
import Derived.Test.YtbfabclpcamlnaaGreatDoorChecked
import Derived.SevenTiedAt
import Derived.JoinedOf
import Derived.KernelRfl
set_option maxRecDepth 100000
open Go
namespace Go.Proofs.YtbfabclpcamlnaaGreatDoor
theorem Ac6 : (Rows.topLandingsRow.recurses == Tryz.prog.recurses 3) = true := by kernel_rfl
theorem w6 : (Rows.topLandingsRow.named == Tryz.prog.varsNamed 3) = true := by kernel_rfl
theorem Abf : (Rows.topLandingsRow.plainKeys == Tryz.prog.plainKeys) = true := by kernel_rfl
end Go.Proofs.YtbfabclpcamlnaaGreatDoor
