/- A part. -/
import Derived.Test.YtmechmjjcgdpdaaGreatDoorRows
import Derived.Test.YtmechmjjcgdpdaaGreatDoorChecked
import Derived.SevenTiedAt
import Derived.JoinedOf
import Derived.KernelRfl
set_option maxRecDepth 100000
open Go
namespace Go.Proofs.YtmechmjjcgdpdaaGreatDoor
theorem tE:(Rows.topConfigRow.inPlace==Tryz.prog.inPlace 3)=true:=by kernel_rfl
theorem Anw:(Rows.topConfigRow.unfollowed==Tryz.prog.unfollowed 3)=true:=by kernel_rfl
theorem Aig:laidOutB Tryz.prog=true:=by kernel_rfl
theorem Af4:mapsRowed Tryz.prog=true:=by kernel_rfl
end Go.Proofs.YtmechmjjcgdpdaaGreatDoor
