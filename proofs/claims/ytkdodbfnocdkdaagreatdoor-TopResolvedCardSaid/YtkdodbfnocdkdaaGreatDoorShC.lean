/- A part. -/
import Derived.Test.YtkdodbfnocdkdaaGreatDoorShK
set_option maxRecDepth 100000
namespace Go.Proofs.YtkdodbfnocdkdaaGreatDoor
theorem Ah2:answers Tryz.prog KS spT 300 11 Am6 Alg=true:=by decide+kernel
theorem qW:answers Tryz.prog KS spT 300 35 rT vB=true:=by decide+kernel
end Go.Proofs.YtkdodbfnocdkdaaGreatDoor
