/- A part. -/
import Derived.Test.YtmechmjjcgdpdaaGreatDoorRows
import Derived.Test.YtmechmjjcgdpdaaGreatDoorChecked
import Derived.SevenTiedAt
import Derived.JoinedOf
import Derived.KernelRfl
set_option maxRecDepth 100000
open Go
namespace Go.Proofs.YtmechmjjcgdpdaaGreatDoor
theorem Al5:(Rows.topConfigRow.recurses==Tryz.prog.recurses 3)=true:=by kernel_rfl
theorem Afr:(Rows.topConfigRow.named==Tryz.prog.varsNamed 3)=true:=by kernel_rfl
theorem Ajn:(Rows.topConfigRow.plainKeys==Tryz.prog.plainKeys)=true:=by kernel_rfl
end Go.Proofs.YtmechmjjcgdpdaaGreatDoor
