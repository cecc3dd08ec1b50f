/- A part. -/
import Derived.Test.YtmechmjjcgdpdaaGreatDoorShB
set_option maxRecDepth 100000
namespace Go.Proofs.YtmechmjjcgdpdaaGreatDoor
theorem Akt:answers Tryz.prog KS spT 300 24 Am0 Alm=true:=by decide+kernel
theorem wG:answers Tryz.prog KS spT 300 36 xH Aa2=true:=by decide+kernel
end Go.Proofs.YtmechmjjcgdpdaaGreatDoor
