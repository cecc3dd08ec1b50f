/- A part. -/
import Derived.Test.YtbfabclpcamlnaaGreatDoorRows
import Derived.Test.YtbfabclpcamlnaaGreatDoorChecked
import Derived.SevenTiedAt
import Derived.JoinedOf
import Derived.KernelRfl
set_option maxRecDepth 100000
open Go
namespace Go.Proofs.YtbfabclpcamlnaaGreatDoor
theorem Abx : false = Rows.topLandingsRow.goesBy Tryz.prog := by kernel_rfl
theorem rL : Tryz.prog.stopsHeard = true := by kernel_rfl
theorem wX : Tryz.prog.mayEnter = true := by kernel_rfl
theorem rY : true = Tryz.prog.looks [] := by kernel_rfl
end Go.Proofs.YtbfabclpcamlnaaGreatDoor
