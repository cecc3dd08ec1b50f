/- Whether the count of draws is asked of a run: a switch of these texts. -/
import Derived.Orders
namespace Go.Proofs.YtkdodbfnocdkdaaGreatDoor
def lax : Bool := false
def sized : Nat → Bool := fun g => Nat.beq g 6
def wcall : Nat → Bool := fun _ => false
end Go.Proofs.YtkdodbfnocdkdaaGreatDoor
