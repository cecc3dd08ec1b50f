/- Closed facts of the program, each by itself. -/
import Derived.Test.YtlenkbgeomojnaaGreatDoorRows
import Derived.Test.YtlenkbgeomojnaaGreatDoorChecked
import Derived.SevenTiedAt
import Derived.JoinedOf
import Derived.KernelRfl
set_option maxRecDepth 100000
open Go
namespace Go.Proofs.YtlenkbgeomojnaaGreatDoor
theorem h_rec:(Rows.topLoadRow.recurses==Tryz.prog.recurses 3)=true:=by kernel_rfl
theorem h_named:(Rows.topLoadRow.named==Tryz.prog.varsNamed 3)=true:=by kernel_rfl
theorem h_keys:(Rows.topLoadRow.plainKeys==Tryz.prog.plainKeys)=true:=by kernel_rfl
end Go.Proofs.YtlenkbgeomojnaaGreatDoor
