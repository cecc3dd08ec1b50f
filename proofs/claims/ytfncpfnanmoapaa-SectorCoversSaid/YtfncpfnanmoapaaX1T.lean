/- The program's types as plain ones; its package-level variables; functions that are called with memory of their own. Printed by wip/Ext.lean.txt. -/
import Derived.Test.YtfncpfnanmoapaaPJ
import Derived.Test.YtfncpfnanmoapaaPO
import Derived.KernelRfl
set_option linter.unusedVariables false
set_option linter.unusedSimpArgs false
namespace Go.Proofs.Ytfncpfnanmoapaa
def glb : Nat → Option (List AV) := fun _ => none
def gval (g : Nat) : AV := match glb g with | some cs => .ept cs 0 | none => .und
theorem fol : Try.prog.follows .mixedOrders = true := by kernel_rfl
def pureL : List Nat := [3, 4, 5, 6, 7, 8, 11, 12, 13, 14, 15, 16, 17, 18, 19, 20, 21, 22, 23, 24, 25, 27, 28, 29, 30, 31, 33, 35, 36, 37, 38, 39, 40, 41, 42, 43, 46, 47, 48, 49, 50, 51, 52, 54, 55, 56, 57, 60, 61, 62]
def KK : Cfg := ⟨fun f => pureL.contains f, glb⟩
def KF : Cfg := ⟨fun _ => false, glb⟩
structure TTubeNode where
  Node_Time : Int
  Node_At_X : Int
  Node_At_Y : Int
  Node_Height : Int
  Radius : Int
  Band : Int
  deriving DecidableEq
def TTubeNode.E : En TTubeNode where
  size := 6
  enc m := [intA m.Node_Time, intA m.Node_At_X, intA m.Node_At_Y, intA m.Node_Height, intA m.Radius, intA m.Band]
  len _ := rfl
  pos := by decide
  cell _ := rfl
  cln _ := rfl
  nrm _ := rfl
structure TP where
  X : Int
  Y : Int
  deriving DecidableEq
def TP.E : En TP where
  size := 2
  enc m := [intA m.X, intA m.Y]
  len _ := rfl
  pos := by decide
  cell _ := rfl
  cln _ := rfl
  nrm _ := rfl
structure TVolume where
  Area : (List TP)
  Low : Int
  High : Int
  deriving DecidableEq
def TVolume.E : En TVolume where
  size := 3
  enc m := [lstA TP.E m.Area, intA m.Low, intA m.High]
  len _ := rfl
  pos := by decide
  cell _ := rfl
  cln m := by simp [cleans, clean, encs_clean]
  nrm m := by simp [norms, norm, encs_norm]
structure TSector where
  Name : ByteArray
  Room : (List TVolume)
  deriving DecidableEq
def TSector.E : En TSector where
  size := 2
  enc m := [strA m.Name, lstA TVolume.E m.Room]
  len _ := rfl
  pos := by decide
  cell _ := rfl
  cln m := by simp [cleans, clean, encs_clean]
  nrm m := by simp [norms, norm, encs_norm]
theorem TP.eql24 (x y : TP) {ty n : Nat} {look : Nat → Option ABlk} : opA Try.prog (.binOp .eql 24 (.tmp 0) (.tmp 1) 24) ty [.agg [(intA x.X), (intA x.Y)], .agg [(intA y.X), (intA y.Y)]] look n = some (boolA (decide (x = y)), []) :=
  opA_eqlG (xs := [.int .i64 x.X, .int .i64 x.Y]) (ys := [.int .i64 y.X, .int .i64 y.Y]) (by kernel_rfl) (by kernel_rfl) (by kernel_rfl) (eq_struct Try.underlying24 (by kernel_rfl) (eqF_cons (a := .int .i64 x.X) (b := .int .i64 y.X) (by decide) (by kernel_rfl) (by kernel_rfl) (eq_int Try.underlying3) (eqF_cons (a := .int .i64 x.Y) (b := .int .i64 y.Y) (by decide) (by kernel_rfl) (by kernel_rfl) (eq_int Try.underlying3) eqF_nil))) (by cases x; cases y; rw [Bool.eq_iff_iff]; simp [beqB, and_assoc, or_assoc])
structure TSectorVisit where
  Sector : Int
  From : Int
  To : Int
  deriving DecidableEq
def TSectorVisit.E : En TSectorVisit where
  size := 3
  enc m := [intA m.Sector, intA m.From, intA m.To]
  len _ := rfl
  pos := by decide
  cell _ := rfl
  cln _ := rfl
  nrm _ := rfl
structure TSectorBox where
  From_X : Int
  From_Y : Int
  To_X : Int
  To_Y : Int
  Low : Int
  High : Int
  deriving DecidableEq
def TSectorBox.E : En TSectorBox where
  size := 6
  enc m := [intA m.From_X, intA m.From_Y, intA m.To_X, intA m.To_Y, intA m.Low, intA m.High]
  len _ := rfl
  pos := by decide
  cell _ := rfl
  cln _ := rfl
  nrm _ := rfl
end Go.Proofs.Ytfncpfnanmoapaa
