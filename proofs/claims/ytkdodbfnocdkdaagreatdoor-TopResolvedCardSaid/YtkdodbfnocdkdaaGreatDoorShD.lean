/- A part. -/
import Derived.Test.YtkdodbfnocdkdaaGreatDoorShK
set_option maxRecDepth 100000
namespace Go.Proofs.YtkdodbfnocdkdaaGreatDoor
theorem Acy:answers Tryz.prog KS spT 300 44 Af2 Agf=true:=by decide+kernel
end Go.Proofs.YtkdodbfnocdkdaaGreatDoor
