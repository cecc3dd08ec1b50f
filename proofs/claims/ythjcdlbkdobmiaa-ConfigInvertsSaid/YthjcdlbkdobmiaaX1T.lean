/- The program's types as plain ones; its package-level variables; functions that are called with memory of their own. Printed by wip/Ext.lean.txt. -/
import Derived.Test.YthjcdlbkdobmiaaPJ
import Derived.Test.YthjcdlbkdobmiaaPO
import Derived.KernelRfl
set_option linter.unusedVariables false
set_option linter.unusedSimpArgs false
namespace Go.Proofs.Ythjcdlbkdobmiaa
def glb : Nat → Option (List AV) := fun _ => none
def gval (g : Nat) : AV := match glb g with | some cs => .ept cs 0 | none => .und
theorem fol : Try.prog.follows .mixedOrders = true := by kernel_rfl
def pureL : List Nat := [3, 4, 5, 6, 7, 8, 9, 10, 11, 12, 13, 15, 16, 17, 19, 20, 22, 23, 26, 27, 33, 34, 36, 37, 44, 56]
def KK : Cfg := ⟨fun f => pureL.contains f, glb⟩
def KF : Cfg := ⟨fun _ => false, glb⟩
structure TConfigGroup where
  Position : ByteArray
  Sectors : (List ByteArray)
  deriving DecidableEq
def TConfigGroup.E : En TConfigGroup where
  size := 2
  enc m := [strA m.Position, lstA strE m.Sectors]
  len _ := rfl
  pos := by decide
  cell _ := rfl
  cln m := by simp [cleans, clean, encs_clean]
  nrm m := by simp [norms, norm, encs_norm]
theorem TConfigGroup.nf : NoFn TConfigGroup.E := by
  intro x c hc f l
  simp only [TConfigGroup.E, List.mem_cons, List.not_mem_nil, or_false] at hc
  rcases hc with rfl | rfl <;> exact (fun h => by cases h)
structure TConfigMove where
  Sector : ByteArray
  From : ByteArray
  To : ByteArray
  deriving DecidableEq
def TConfigMove.E : En TConfigMove where
  size := 3
  enc m := [strA m.Sector, strA m.From, strA m.To]
  len _ := rfl
  pos := by decide
  cell _ := rfl
  cln _ := rfl
  nrm _ := rfl
theorem TConfigMove.nf : NoFn TConfigMove.E := by
  intro x c hc f l
  simp only [TConfigMove.E, List.mem_cons, List.not_mem_nil, or_false] at hc
  rcases hc with rfl | rfl | rfl <;> exact (fun h => by cases h)
end Go.Proofs.Ythjcdlbkdobmiaa
