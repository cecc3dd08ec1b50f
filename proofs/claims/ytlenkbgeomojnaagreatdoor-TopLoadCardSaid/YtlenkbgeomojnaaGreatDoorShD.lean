/- The candidates of shownFact's flight. -/
import Derived.Test.YtlenkbgeomojnaaGreatDoorShB
set_option maxRecDepth 100000
namespace Go.Proofs.YtlenkbgeomojnaaGreatDoor
theorem ev_cand:answers Tryz.prog KS spT 300 106 candA candV=true:=by decide+kernel
end Go.Proofs.YtlenkbgeomojnaaGreatDoor
