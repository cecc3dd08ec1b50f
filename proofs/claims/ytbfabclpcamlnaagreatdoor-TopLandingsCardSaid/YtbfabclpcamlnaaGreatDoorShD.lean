/- A part. -/
import Derived.Test.YtbfabclpcamlnaaGreatDoorShB
set_option maxRecDepth 100000
namespace Go.Proofs.YtbfabclpcamlnaaGreatDoor
theorem rZ : answers Tryz.prog KS spT 300 105 xZ xK = true := by decide +kernel
end Go.Proofs.YtbfabclpcamlnaaGreatDoor
