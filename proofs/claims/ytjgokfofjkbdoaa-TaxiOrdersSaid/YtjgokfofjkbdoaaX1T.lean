/- The program's types as plain ones; its package-level variables; functions that are called with memory of their own. Printed by wip/Ext.lean.txt. -/
import Derived.Test.YtjgokfofjkbdoaaPi29
import Derived.KernelRfl
set_option linter.unusedVariables false
set_option linter.unusedSimpArgs false
namespace Go.Proofs.Ytjgokfofjkbdoaa
def glb : Nat → Option (List AV) := fun _ => none
def gval (g : Nat) : AV := match glb g with | some cs => .ept cs 0 | none => .und
theorem fol : Try.prog.follows .mixedOrders = true := by kernel_rfl
def pureL : List Nat := [3, 4, 5, 8, 9, 10, 11, 12, 13, 15, 16, 17, 18, 19, 21, 25, 26]
def KK : Cfg := ⟨fun f => pureL.contains f, glb⟩
def KF : Cfg := ⟨fun _ => false, glb⟩
structure TTaxiStand where
  Name : ByteArray
  Time : Int
  deriving DecidableEq
def TTaxiStand.E : En TTaxiStand where
  size := 2
  enc m := [strA m.Name, intA m.Time]
  len _ := rfl
  pos := by decide
  cell _ := rfl
  cln _ := rfl
  nrm _ := rfl
theorem TTaxiStand.nf : NoFn TTaxiStand.E := by
  intro x c hc f l
  simp only [TTaxiStand.E, List.mem_cons, List.not_mem_nil, or_false] at hc
  rcases hc with rfl | rfl <;> exact (fun h => by cases h)
structure TTaxiAsk where
  Call : ByteArray
  Stand : ByteArray
  Ready : Int
  deriving DecidableEq
def TTaxiAsk.E : En TTaxiAsk where
  size := 3
  enc m := [strA m.Call, strA m.Stand, intA m.Ready]
  len _ := rfl
  pos := by decide
  cell _ := rfl
  cln _ := rfl
  nrm _ := rfl
theorem TTaxiAsk.nf : NoFn TTaxiAsk.E := by
  intro x c hc f l
  simp only [TTaxiAsk.E, List.mem_cons, List.not_mem_nil, or_false] at hc
  rcases hc with rfl | rfl | rfl <;> exact (fun h => by cases h)
structure TTaxiMove where
  Call : ByteArray
  Push : Int
  Hold : Int
  Leave : Int
  deriving DecidableEq
def TTaxiMove.E : En TTaxiMove where
  size := 4
  enc m := [strA m.Call, intA m.Push, intA m.Hold, intA m.Leave]
  len _ := rfl
  pos := by decide
  cell _ := rfl
  cln _ := rfl
  nrm _ := rfl
theorem TTaxiMove.nf : NoFn TTaxiMove.E := by
  intro x c hc f l
  simp only [TTaxiMove.E, List.mem_cons, List.not_mem_nil, or_false] at hc
  rcases hc with rfl | rfl | rfl | rfl <;> exact (fun h => by cases h)
end Go.Proofs.Ytjgokfofjkbdoaa
