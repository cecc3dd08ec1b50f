/- shownFact's clearance is carried out. -/
import Derived.Test.YtlenkbgeomojnaaGreatDoorShB
set_option maxRecDepth 100000
namespace Go.Proofs.YtlenkbgeomojnaaGreatDoor
theorem ev_eff:answers Tryz.prog KS spT 300 19 effA effV=true:=by decide+kernel
theorem ev_shift:answers Tryz.prog KS spT 300 8 shiftA shiftV=true:=by decide+kernel
end Go.Proofs.YtlenkbgeomojnaaGreatDoor
