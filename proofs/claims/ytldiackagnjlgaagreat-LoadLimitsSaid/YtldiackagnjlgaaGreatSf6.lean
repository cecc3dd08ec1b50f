/- The node at a time is within bounds. -/
import Derived.Test.YtldiackagnjlgaaGreatSf1
import Derived.Test.YtldiackagnjlgaaGreatSf5
set_option linter.unusedVariables false
set_option linter.unusedSimpArgs false
namespace Go.Proofs.YtldiackagnjlgaaGreat

end Go.Proofs.YtldiackagnjlgaaGreat
