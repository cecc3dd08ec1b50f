/- A part. -/
import Derived.Test.YtmechmjjcgdpdaaGreatDoorRows
import Derived.Test.YtmechmjjcgdpdaaGreatDoorChecked
import Derived.SevenTiedAt
import Derived.JoinedOf
import Derived.KernelRfl
set_option maxRecDepth 100000
open Go
namespace Go.Proofs.YtmechmjjcgdpdaaGreatDoor
theorem Akg:false=Rows.topConfigRow.goesBy Tryz.prog:=by kernel_rfl
theorem Af0:Tryz.prog.stopsHeard=true:=by kernel_rfl
theorem Agd:Tryz.prog.mayEnter=true:=by kernel_rfl
theorem Ab6:true=Tryz.prog.looks []:=by kernel_rfl
end Go.Proofs.YtmechmjjcgdpdaaGreatDoor
