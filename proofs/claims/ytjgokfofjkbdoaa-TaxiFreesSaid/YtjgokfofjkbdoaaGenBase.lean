/- The seat's program: its package-level variables, the functions that are called with memory of their own. -/
import Derived.Test.YtjgokfofjkbdoaaPi22
import Derived.KernelRfl
namespace Go.Proofs.Ytjgokfofjkbdoaa
def glb : Nat → Option (List AV) := fun _ => none
def gval (g : Nat) : AV := match glb g with | some cs => .ept cs 0 | none => .und
theorem fol : Try.prog.follows .mixedOrders = true := by kernel_rfl
def pureL : List Nat := [3, 4, 5, 6, 7, 8, 9, 10, 11, 12, 13, 15, 16, 17, 18, 19, 21, 25, 26]
def KK : Cfg := ⟨fun f => pureL.contains f, glb⟩
end Go.Proofs.Ytjgokfofjkbdoaa
