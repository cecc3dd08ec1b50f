/- Closed facts of the program, each by itself. -/
import Derived.Test.YtlenkbgeomojnaaGreatDoorRows
import Derived.Test.YtlenkbgeomojnaaGreatDoorChecked
import Derived.SevenTiedAt
import Derived.JoinedOf
import Derived.KernelRfl
set_option maxRecDepth 100000
open Go
namespace Go.Proofs.YtlenkbgeomojnaaGreatDoor
theorem h_inPlace:(Rows.topLoadRow.inPlace==Tryz.prog.inPlace 3)=true:=by kernel_rfl
theorem h_unf:(Rows.topLoadRow.unfollowed==Tryz.prog.unfollowed 3)=true:=by kernel_rfl
theorem h_laid:laidOutB Tryz.prog=true:=by kernel_rfl
theorem h_rowed:mapsRowed Tryz.prog=true:=by kernel_rfl
end Go.Proofs.YtlenkbgeomojnaaGreatDoor
