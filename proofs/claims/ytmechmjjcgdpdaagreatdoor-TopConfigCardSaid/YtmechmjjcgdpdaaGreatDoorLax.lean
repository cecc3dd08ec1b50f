/- Whether the count of draws is asked of a run: a switch of these texts. -/
import Derived.Orders
namespace Go.Proofs.YtmechmjjcgdpdaaGreatDoor
def lax : Bool := false
def sized : Nat → Bool := fun _ => false
def wcall : Nat → Bool := fun _ => false
end Go.Proofs.YtmechmjjcgdpdaaGreatDoor
