/- A part. -/
import Derived.Test.YtkdodbfnocdkdaaGreatDoorRows
import Derived.Test.YtkdodbfnocdkdaaGreatDoorChecked
import Derived.SevenTiedAt
import Derived.JoinedOf
import Derived.KernelRfl
set_option maxRecDepth 100000
open Go
namespace Go.Proofs.YtkdodbfnocdkdaaGreatDoor
theorem nV:(Rows.topResolvedRow.inPlace==Tryz.prog.inPlace 3)=true:=by kernel_rfl
theorem Amm:(Rows.topResolvedRow.unfollowed==Tryz.prog.unfollowed 3)=true:=by kernel_rfl
theorem Ag1:laidOutB Tryz.prog=true:=by kernel_rfl
theorem Aen:mapsRowed Tryz.prog=true:=by kernel_rfl
end Go.Proofs.YtkdodbfnocdkdaaGreatDoor
