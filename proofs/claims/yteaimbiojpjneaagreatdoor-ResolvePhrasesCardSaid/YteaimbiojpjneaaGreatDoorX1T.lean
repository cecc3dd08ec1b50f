/- The program's types as plain ones; its package-level variables; functions that are called with memory of their own. Printed by wip/Ext.lean.txt. -/
import Derived.Test.YteaimbiojpjneaaGreatDoorPJ
import Derived.Test.YteaimbiojpjneaaGreatDoorPQ
import Derived.KernelRfl
set_option linter.unusedVariables false
set_option linter.unusedSimpArgs false
namespace Go.Proofs.YteaimbiojpjneaaGreatDoor
def glb : Nat → Option (List AV) := fun g => match g with | 0 => some [intA 60000, intA 4095, intA 400] | 1 => some [strA ⟨#[72, 69, 73, 71, 72, 84]⟩, strA ⟨#[72, 69, 65, 68, 73, 78, 71]⟩, strA ⟨#[83, 80, 69, 69, 68]⟩, strA ⟨#[68, 73, 82, 69, 67, 84]⟩, strA ⟨#[72, 79, 76, 68]⟩, strA ⟨#[67, 79, 78, 84, 65, 67, 84]⟩, strA ⟨#[76, 65, 78, 68]⟩] | 3 => some [AV.sc (.float .f64 13666448263388469915), AV.sc (.float .f64 4477121864728985349), AV.sc (.float .f64 13732177093698800582), AV.sc (.float .f64 4537941361668146421), AV.sc (.float .f64 13787419979223748497), AV.sc (.float .f64 4586165620538955083)] | 4 => some [AV.sc (.float .f64 4460209587652500685), AV.sc (.float .f64 13716528389658582877), AV.sc (.float .f64 4523617212962785441), AV.sc (.float .f64 13774824197404483331), AV.sc (.float .f64 4575957461383575504), AV.sc (.float .f64 13818544856648471880)] | _ => none
def gval (g : Nat) : AV := match glb g with | some cs => .ept cs 0 | none => .und
noncomputable abbrev pg : Program := Tryz.prog
theorem fol : Tryz.prog.follows .mixedOrders = true := by kernel_rfl
def pureL : List Nat := [3, 4, 5, 6, 7, 8, 9, 10, 11, 12, 13, 14, 16, 17, 19, 20, 21, 22, 23, 24, 25, 26, 27, 29, 30, 31, 32, 33, 38, 42, 43, 44, 45, 47, 48, 49, 50, 51, 52, 53, 54, 55, 56, 57, 63, 64, 65, 69, 70, 71, 72, 73, 74, 75, 76, 77, 78, 79, 80, 81, 84, 85, 86, 97, 98, 99, 100, 101, 102, 103, 104, 106, 112, 113, 114, 115, 116, 117, 118, 119, 120, 123, 124, 125, 126, 127, 128, 129, 130, 132, 133, 134, 135, 136]
def KK : Cfg := ⟨fun f => pureL.contains f, glb⟩
def KF : Cfg := ⟨fun _ => false, glb⟩
structure TSep where
  Lateral : Int
  Vertical : Int
  deriving DecidableEq
def TSep.E : En TSep where
  size := 2
  enc m := [intA m.Lateral, intA m.Vertical]
  len _ := rfl
  pos := by decide
  cell _ := rfl
  cln _ := rfl
  nrm _ := rfl
theorem TSep.nf : NoFn TSep.E := by
  intro x c hc f l
  simp only [TSep.E, List.mem_cons, List.not_mem_nil, or_false] at hc
  rcases hc with rfl | rfl <;> exact (fun h => by cases h)
structure TTubeNode where
  Node_Time : Int
  Node_At_X : Int
  Node_At_Y : Int
  Node_Height : Int
  Radius : Int
  Band : Int
  deriving DecidableEq
def TTubeNode.E : En TTubeNode where
  size := 6
  enc m := [intA m.Node_Time, intA m.Node_At_X, intA m.Node_At_Y, intA m.Node_Height, intA m.Radius, intA m.Band]
  len _ := rfl
  pos := by decide
  cell _ := rfl
  cln _ := rfl
  nrm _ := rfl
theorem TTubeNode.nf : NoFn TTubeNode.E := by
  intro x c hc f l
  simp only [TTubeNode.E, List.mem_cons, List.not_mem_nil, or_false] at hc
  rcases hc with rfl | rfl | rfl | rfl | rfl | rfl <;> exact (fun h => by cases h)
structure TP where
  X : Int
  Y : Int
  deriving DecidableEq
def TP.E : En TP where
  size := 2
  enc m := [intA m.X, intA m.Y]
  len _ := rfl
  pos := by decide
  cell _ := rfl
  cln _ := rfl
  nrm _ := rfl
theorem TP.nf : NoFn TP.E := by
  intro x c hc f l
  simp only [TP.E, List.mem_cons, List.not_mem_nil, or_false] at hc
  rcases hc with rfl | rfl <;> exact (fun h => by cases h)
structure TSpan where
  From : Int
  To : Int
  deriving DecidableEq
def TSpan.E : En TSpan where
  size := 2
  enc m := [intA m.From, intA m.To]
  len _ := rfl
  pos := by decide
  cell _ := rfl
  cln _ := rfl
  nrm _ := rfl
theorem TSpan.nf : NoFn TSpan.E := by
  intro x c hc f l
  simp only [TSpan.E, List.mem_cons, List.not_mem_nil, or_false] at hc
  rcases hc with rfl | rfl <;> exact (fun h => by cases h)
structure TKind where
  Name : ByteArray
  Wake : Int
  Ceiling : Int
  Climb : Int
  Descent : Int
  Slow : Int
  Fast : Int
  deriving DecidableEq
def TKind.E : En TKind where
  size := 7
  enc m := [strA m.Name, intA m.Wake, intA m.Ceiling, intA m.Climb, intA m.Descent, intA m.Slow, intA m.Fast]
  len _ := rfl
  pos := by decide
  cell _ := rfl
  cln _ := rfl
  nrm _ := rfl
theorem TKind.nf : NoFn TKind.E := by
  intro x c hc f l
  simp only [TKind.E, List.mem_cons, List.not_mem_nil, or_false] at hc
  rcases hc with rfl | rfl | rfl | rfl | rfl | rfl | rfl <;> exact (fun h => by cases h)
structure TClearance where
  Call : ByteArray
  Kind : Int
  Value : Int
  Fix : ByteArray
  deriving DecidableEq
def TClearance.E : En TClearance where
  size := 4
  enc m := [strA m.Call, intA m.Kind, intA m.Value, strA m.Fix]
  len _ := rfl
  pos := by decide
  cell _ := rfl
  cln _ := rfl
  nrm _ := rfl
theorem TClearance.nf : NoFn TClearance.E := by
  intro x c hc f l
  simp only [TClearance.E, List.mem_cons, List.not_mem_nil, or_false] at hc
  rcases hc with rfl | rfl | rfl | rfl <;> exact (fun h => by cases h)
theorem TClearance.eql32 (x y : TClearance) {ty n : Nat} {look : Nat → Option ABlk} : opA Tryz.prog (.binOp .eql 32 (.tmp 0) (.tmp 1) 32) ty [.agg [(strA x.Call), (intA x.Kind), (intA x.Value), (strA x.Fix)], .agg [(strA y.Call), (intA y.Kind), (intA y.Value), (strA y.Fix)]] look n = some (boolA (decide (x = y)), []) :=
  opA_eqlG (xs := [.string x.Call, .int .i64 x.Kind, .int .i64 x.Value, .string x.Fix]) (ys := [.string y.Call, .int .i64 y.Kind, .int .i64 y.Value, .string y.Fix]) (by kernel_rfl) (by kernel_rfl) (by kernel_rfl) (eq_struct Tryz.underlying32 (by kernel_rfl) (eqF_cons (a := .string x.Call) (b := .string y.Call) (by decide) (by kernel_rfl) (by kernel_rfl) (eq_str Tryz.underlying9) (eqF_cons (a := .int .i64 x.Kind) (b := .int .i64 y.Kind) (by decide) (by kernel_rfl) (by kernel_rfl) (eq_int Tryz.underlying3) (eqF_cons (a := .int .i64 x.Value) (b := .int .i64 y.Value) (by decide) (by kernel_rfl) (by kernel_rfl) (eq_int Tryz.underlying3) (eqF_cons (a := .string x.Fix) (b := .string y.Fix) (by decide) (by kernel_rfl) (by kernel_rfl) (eq_str Tryz.underlying9) eqF_nil))))) (by cases x; cases y; rw [Bool.eq_iff_iff]; simp [beqB, and_assoc, or_assoc])
theorem TClearance.neq32 (x y : TClearance) {ty n : Nat} {look : Nat → Option ABlk} : opA Tryz.prog (.binOp .neq 32 (.tmp 0) (.tmp 1) 32) ty [.agg [(strA x.Call), (intA x.Kind), (intA x.Value), (strA x.Fix)], .agg [(strA y.Call), (intA y.Kind), (intA y.Value), (strA y.Fix)]] look n = some (boolA (!(decide (x = y))), []) :=
  opA_neqG (xs := [.string x.Call, .int .i64 x.Kind, .int .i64 x.Value, .string x.Fix]) (ys := [.string y.Call, .int .i64 y.Kind, .int .i64 y.Value, .string y.Fix]) (by kernel_rfl) (by kernel_rfl) (by kernel_rfl) (eq_struct Tryz.underlying32 (by kernel_rfl) (eqF_cons (a := .string x.Call) (b := .string y.Call) (by decide) (by kernel_rfl) (by kernel_rfl) (eq_str Tryz.underlying9) (eqF_cons (a := .int .i64 x.Kind) (b := .int .i64 y.Kind) (by decide) (by kernel_rfl) (by kernel_rfl) (eq_int Tryz.underlying3) (eqF_cons (a := .int .i64 x.Value) (b := .int .i64 y.Value) (by decide) (by kernel_rfl) (by kernel_rfl) (eq_int Tryz.underlying3) (eqF_cons (a := .string x.Fix) (b := .string y.Fix) (by decide) (by kernel_rfl) (by kernel_rfl) (eq_str Tryz.underlying9) eqF_nil))))) (by cases x; cases y; rw [Bool.eq_iff_iff]; simp [beqB, and_assoc, or_assoc])
end Go.Proofs.YteaimbiojpjneaaGreatDoor
