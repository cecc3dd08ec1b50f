/- A part. -/
import Derived.Test.YtkdodbfnocdkdaaGreatDoorRows
import Derived.Test.YtkdodbfnocdkdaaGreatDoorChecked
import Derived.SevenTiedAt
import Derived.JoinedOf
import Derived.KernelRfl
set_option maxRecDepth 100000
open Go
namespace Go.Proofs.YtkdodbfnocdkdaaGreatDoor
theorem Aib:false=Rows.topResolvedRow.goesBy Tryz.prog:=by kernel_rfl
theorem Aet:Tryz.prog.stopsHeard=true:=by kernel_rfl
theorem Ab3:Tryz.prog.mayEnter=true:=by kernel_rfl
theorem Ace:true=Tryz.prog.looks []:=by kernel_rfl
end Go.Proofs.YtkdodbfnocdkdaaGreatDoor
