/- A part. -/
import Derived.Test.YtmechmjjcgdpdaaGreatDoorMath2
set_option linter.unusedVariables false
set_option linter.unusedSimpArgs false
namespace Go.Proofs.YtmechmjjcgdpdaaGreatDoor
def tab (m:Nat) (f:Nat→Int):List Int:=(List.range m).map f
end Go.Proofs.YtmechmjjcgdpdaaGreatDoor
