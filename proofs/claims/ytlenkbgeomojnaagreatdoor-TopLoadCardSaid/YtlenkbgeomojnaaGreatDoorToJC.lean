/- Closed facts of the program, each by itself. -/
import Derived.Test.YtlenkbgeomojnaaGreatDoorRows
import Derived.Test.YtlenkbgeomojnaaGreatDoorChecked
import Derived.SevenTiedAt
import Derived.JoinedOf
import Derived.KernelRfl
set_option maxRecDepth 100000
open Go
namespace Go.Proofs.YtlenkbgeomojnaaGreatDoor
theorem h_goes:false=Rows.topLoadRow.goesBy Tryz.prog:=by kernel_rfl
theorem h_heard:Tryz.prog.stopsHeard=true:=by kernel_rfl
theorem h_enter:Tryz.prog.mayEnter=true:=by kernel_rfl
theorem h_looks:true=Tryz.prog.looks []:=by kernel_rfl
end Go.Proofs.YtlenkbgeomojnaaGreatDoor
