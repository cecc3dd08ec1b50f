/- The program's types as plain ones; its package-level variables; functions that are called with memory of their own. Printed by wip/Ext.lean.txt. -/
import Derived.Test.YtfmodgffhbljoaaPJ
import Derived.KernelRfl
set_option linter.unusedVariables false
set_option linter.unusedSimpArgs false
namespace Go.Proofs.Ytfmodgffhbljoaa
def glb : Nat → Option (List AV) := fun _ => none
def gval (g : Nat) : AV := match glb g with | some cs => .ept cs 0 | none => .und
theorem fol : Try.prog.follows .mixedOrders = true := by kernel_rfl
def pureL : List Nat := [3, 4, 5, 6, 7, 8, 9, 10, 11, 12, 13, 15, 16, 17, 18, 19, 20, 21, 22, 24, 26, 27, 28, 30, 31, 32, 34, 35, 36, 37, 38, 39, 40, 41, 42, 44, 45, 46, 47, 50, 53, 54, 55, 58, 59, 60, 62, 63, 65, 66, 69, 71]
def KK : Cfg := ⟨fun f => pureL.contains f, glb⟩
def KF : Cfg := ⟨fun _ => false, glb⟩
structure TSequenceArrival where
  Call : ByteArray
  Wake : Int
  Time : Int
  Latest : Int
  deriving DecidableEq
def TSequenceArrival.E : En TSequenceArrival where
  size := 4
  enc m := [strA m.Call, intA m.Wake, intA m.Time, intA m.Latest]
  len _ := rfl
  pos := by decide
  cell _ := rfl
  cln _ := rfl
  nrm _ := rfl
theorem TSequenceArrival.nf : NoFn TSequenceArrival.E := by
  intro x c hc f l
  simp only [TSequenceArrival.E, List.mem_cons, List.not_mem_nil, or_false] at hc
  rcases hc with rfl | rfl | rfl | rfl <;> exact (fun h => by cases h)
structure TWakeTable where
  c0_0 : Int
  c0_1 : Int
  c0_2 : Int
  c0_3 : Int
  c1_0 : Int
  c1_1 : Int
  c1_2 : Int
  c1_3 : Int
  c2_0 : Int
  c2_1 : Int
  c2_2 : Int
  c2_3 : Int
  c3_0 : Int
  c3_1 : Int
  c3_2 : Int
  c3_3 : Int
  deriving DecidableEq
def TWakeTable.E : En TWakeTable where
  size := 16
  enc m := [intA m.c0_0, intA m.c0_1, intA m.c0_2, intA m.c0_3, intA m.c1_0, intA m.c1_1, intA m.c1_2, intA m.c1_3, intA m.c2_0, intA m.c2_1, intA m.c2_2, intA m.c2_3, intA m.c3_0, intA m.c3_1, intA m.c3_2, intA m.c3_3]
  len _ := rfl
  pos := by decide
  cell _ := rfl
  cln _ := rfl
  nrm _ := rfl
theorem TWakeTable.nf : NoFn TWakeTable.E := by
  intro x c hc f l
  simp only [TWakeTable.E, List.mem_cons, List.not_mem_nil, or_false] at hc
  rcases hc with rfl | rfl | rfl | rfl | rfl | rfl | rfl | rfl | rfl | rfl | rfl | rfl | rfl | rfl | rfl | rfl <;> exact (fun h => by cases h)
structure T22 where
  c0 : Int
  c1 : Int
  c2 : Int
  c3 : Int
  deriving DecidableEq
def T22.E : En T22 where
  size := 4
  enc m := [intA m.c0, intA m.c1, intA m.c2, intA m.c3]
  len _ := rfl
  pos := by decide
  cell _ := rfl
  cln _ := rfl
  nrm _ := rfl
theorem T22.nf : NoFn T22.E := by
  intro x c hc f l
  simp only [T22.E, List.mem_cons, List.not_mem_nil, or_false] at hc
  rcases hc with rfl | rfl | rfl | rfl <;> exact (fun h => by cases h)
end Go.Proofs.Ytfmodgffhbljoaa
