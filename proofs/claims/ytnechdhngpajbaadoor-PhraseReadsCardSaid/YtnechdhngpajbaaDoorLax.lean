/- Whether the count of draws is asked of a run: a switch of these texts. -/
import Derived.Orders
namespace Go.Proofs.YtnechdhngpajbaaDoor
def lax : Bool := true
def sized : Nat → Bool := fun g => Nat.beq g 5
end Go.Proofs.YtnechdhngpajbaaDoor
