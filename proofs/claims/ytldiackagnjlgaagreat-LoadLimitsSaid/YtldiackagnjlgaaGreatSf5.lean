/- Numbers of tubes: division, distance, the node at a time is within its neighbours. -/
import Derived.Test.YtldiackagnjlgaaGreatSf1
set_option linter.unusedVariables false
set_option linter.unusedSimpArgs false
namespace Go.Proofs.YtldiackagnjlgaaGreat

/- rounding down between the ends -/
end Go.Proofs.YtldiackagnjlgaaGreat
