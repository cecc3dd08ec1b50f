/- The program's types as plain ones; its package-level variables; functions that are called with memory of their own. Printed by wip/Ext.lean.txt. -/
import Derived.Test.YteaimbiojpjneaaGreatDoorPJ
import Derived.KernelRfl
set_option linter.unusedVariables false
set_option linter.unusedSimpArgs false
namespace Go.Proofs.YteaimbiojpjneaaGreatDoor
def glb : Nat → Option (List AV) := fun g => match g with | 0 => some [intA 60000, intA 4095, intA 400] | 1 => some [strA ⟨#[72, 69, 73, 71, 72, 84]⟩, strA ⟨#[72, 69, 65, 68, 73, 78, 71]⟩, strA ⟨#[83, 80, 69, 69, 68]⟩, strA ⟨#[68, 73, 82, 69, 67, 84]⟩, strA ⟨#[72, 79, 76, 68]⟩, strA ⟨#[67, 79, 78, 84, 65, 67, 84]⟩, strA ⟨#[76, 65, 78, 68]⟩] | _ => none
def gval (g : Nat) : AV := match glb g with | some cs => .ept cs 0 | none => .und
theorem fol : Tryz.prog.follows .mixedOrders = true := by kernel_rfl
def pureL : List Nat := [3, 4, 5, 6, 7, 8, 9, 10, 11, 12, 13, 14, 16, 17, 19, 20, 21, 22, 23, 24, 25, 26, 27, 29, 30, 31, 32, 33, 38, 39, 42, 43, 44, 45, 47, 48, 49, 50, 51, 52, 53, 54, 55, 56, 57, 58, 59, 60, 61, 63, 64, 65, 69, 70, 71, 72, 75, 76, 77, 78, 79, 80, 81, 84, 85, 86, 101, 102, 103, 104, 106]
def KK : Cfg := ⟨fun f => pureL.contains f, glb⟩
def KF : Cfg := ⟨fun _ => false, glb⟩
structure TSep where
  Lateral : Int
  Vertical : Int
  deriving DecidableEq
def TSep.E : En TSep where
  size := 2
  enc m := [intA m.Lateral, intA m.Vertical]
  len _ := rfl
  pos := by decide
  cell _ := rfl
  cln _ := rfl
  nrm _ := rfl
theorem TSep.nf : NoFn TSep.E := by
  intro x c hc f l
  simp only [TSep.E, List.mem_cons, List.not_mem_nil, or_false] at hc
  rcases hc with rfl | rfl <;> exact (fun h => by cases h)
structure TTubeNode where
  Node_Time : Int
  Node_At_X : Int
  Node_At_Y : Int
  Node_Height : Int
  Radius : Int
  Band : Int
  deriving DecidableEq
def TTubeNode.E : En TTubeNode where
  size := 6
  enc m := [intA m.Node_Time, intA m.Node_At_X, intA m.Node_At_Y, intA m.Node_Height, intA m.Radius, intA m.Band]
  len _ := rfl
  pos := by decide
  cell _ := rfl
  cln _ := rfl
  nrm _ := rfl
theorem TTubeNode.nf : NoFn TTubeNode.E := by
  intro x c hc f l
  simp only [TTubeNode.E, List.mem_cons, List.not_mem_nil, or_false] at hc
  rcases hc with rfl | rfl | rfl | rfl | rfl | rfl <;> exact (fun h => by cases h)
structure TP where
  X : Int
  Y : Int
  deriving DecidableEq
def TP.E : En TP where
  size := 2
  enc m := [intA m.X, intA m.Y]
  len _ := rfl
  pos := by decide
  cell _ := rfl
  cln _ := rfl
  nrm _ := rfl
theorem TP.nf : NoFn TP.E := by
  intro x c hc f l
  simp only [TP.E, List.mem_cons, List.not_mem_nil, or_false] at hc
  rcases hc with rfl | rfl <;> exact (fun h => by cases h)
structure TSpan where
  From : Int
  To : Int
  deriving DecidableEq
def TSpan.E : En TSpan where
  size := 2
  enc m := [intA m.From, intA m.To]
  len _ := rfl
  pos := by decide
  cell _ := rfl
  cln _ := rfl
  nrm _ := rfl
theorem TSpan.nf : NoFn TSpan.E := by
  intro x c hc f l
  simp only [TSpan.E, List.mem_cons, List.not_mem_nil, or_false] at hc
  rcases hc with rfl | rfl <;> exact (fun h => by cases h)
structure TClash where
  A : Int
  B : Int
  From : Int
  To : Int
  deriving DecidableEq
def TClash.E : En TClash where
  size := 4
  enc m := [intA m.A, intA m.B, intA m.From, intA m.To]
  len _ := rfl
  pos := by decide
  cell _ := rfl
  cln _ := rfl
  nrm _ := rfl
theorem TClash.nf : NoFn TClash.E := by
  intro x c hc f l
  simp only [TClash.E, List.mem_cons, List.not_mem_nil, or_false] at hc
  rcases hc with rfl | rfl | rfl | rfl <;> exact (fun h => by cases h)
end Go.Proofs.YteaimbiojpjneaaGreatDoor
