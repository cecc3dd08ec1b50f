/- A part. -/
import Derived.Test.YtbfabclpcamlnaaGreatDoorRows
import Derived.Test.YtbfabclpcamlnaaGreatDoorChecked
import Derived.SevenTiedAt
import Derived.JoinedOf
import Derived.KernelRfl
set_option maxRecDepth 100000
open Go
namespace Go.Proofs.YtbfabclpcamlnaaGreatDoor
theorem fO : (Rows.topLandingsRow.inPlace == Tryz.prog.inPlace 3) = true := by kernel_rfl
theorem Acd : (Rows.topLandingsRow.unfollowed == Tryz.prog.unfollowed 3) = true := by kernel_rfl
theorem Aaj : laidOutB Tryz.prog = true := by kernel_rfl
theorem tH : mapsRowed Tryz.prog = true := by kernel_rfl
end Go.Proofs.YtbfabclpcamlnaaGreatDoor
