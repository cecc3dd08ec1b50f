/- A part. -/
import Derived.Test.YtmechmjjcgdpdaaGreatDoorShB
set_option maxRecDepth 100000
namespace Go.Proofs.YtmechmjjcgdpdaaGreatDoor
theorem Af8:answers Tryz.prog KS spT 300 115 Aht Ah4=true:=by decide+kernel
end Go.Proofs.YtmechmjjcgdpdaaGreatDoor
