/- A part. -/
import Derived.Test.YtkdodbfnocdkdaaGreatDoorRows
import Derived.Test.YtkdodbfnocdkdaaGreatDoorChecked
import Derived.SevenTiedAt
import Derived.JoinedOf
import Derived.KernelRfl
set_option maxRecDepth 100000
open Go
namespace Go.Proofs.YtkdodbfnocdkdaaGreatDoor
theorem Al4:(Rows.topResolvedRow.recurses==Tryz.prog.recurses 3)=true:=by kernel_rfl
theorem Aez:(Rows.topResolvedRow.named==Tryz.prog.varsNamed 3)=true:=by kernel_rfl
theorem Ag3:(Rows.topResolvedRow.plainKeys==Tryz.prog.plainKeys)=true:=by kernel_rfl
end Go.Proofs.YtkdodbfnocdkdaaGreatDoor
