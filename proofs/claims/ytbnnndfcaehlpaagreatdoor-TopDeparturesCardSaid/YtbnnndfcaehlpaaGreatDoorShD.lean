/- The candidates of shownFact's flight. -/
import Derived.Test.YtbnnndfcaehlpaaGreatDoorShB
set_option maxRecDepth 100000
namespace Go.Proofs.YtbnnndfcaehlpaaGreatDoor
theorem ev_cand : answers Tryz.prog KS spT 300 100 candA candV = true := by decide +kernel
end Go.Proofs.YtbnnndfcaehlpaaGreatDoor
