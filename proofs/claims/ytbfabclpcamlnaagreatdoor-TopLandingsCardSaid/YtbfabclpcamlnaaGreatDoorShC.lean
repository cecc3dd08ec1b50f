/- A part. -/
import Derived.Test.YtbfabclpcamlnaaGreatDoorShB
set_option maxRecDepth 100000
namespace Go.Proofs.YtbfabclpcamlnaaGreatDoor
theorem y3 : answers Tryz.prog KS spT 300 23 Adj Adc = true := by decide +kernel
theorem kD : answers Tryz.prog KS spT 300 33 mY o5 = true := by decide +kernel
end Go.Proofs.YtbfabclpcamlnaaGreatDoor
