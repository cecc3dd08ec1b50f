/- Closed facts of the program, each by itself. -/
import Derived.Test.YtbnnndfcaehlpaaGreatDoorRows
import Derived.Test.YtbnnndfcaehlpaaGreatDoorChecked
import Derived.SevenTiedAt
import Derived.JoinedOf
import Derived.KernelRfl
set_option maxRecDepth 100000
open Go
namespace Go.Proofs.YtbnnndfcaehlpaaGreatDoor
theorem h_rec : (Rows.topDeparturesRow.recurses == Tryz.prog.recurses 3) = true := by kernel_rfl
theorem h_named : (Rows.topDeparturesRow.named == Tryz.prog.varsNamed 3) = true := by kernel_rfl
theorem h_keys : (Rows.topDeparturesRow.plainKeys == Tryz.prog.plainKeys) = true := by kernel_rfl
end Go.Proofs.YtbnnndfcaehlpaaGreatDoor
