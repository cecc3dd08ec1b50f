/- The program's types as plain ones; its package-level variables; functions that are called with memory of their own. Printed by wip/Ext.lean.txt. -/
import Derived.Test.YtbbfpbngnkjkdaaDoorPJ
import Derived.Test.YtbbfpbngnkjkdaaDoorPQ
import Derived.KernelRfl
set_option linter.unusedVariables false
set_option linter.unusedSimpArgs false
namespace Go.Proofs.YtbbfpbngnkjkdaaDoor
def glb : Nat → Option (List AV) := fun g => match g with | 0 => some [intA 60000, intA 4095, intA 400] | 1 => some [strA ⟨#[72, 69, 73, 71, 72, 84]⟩, strA ⟨#[72, 69, 65, 68, 73, 78, 71]⟩, strA ⟨#[83, 80, 69, 69, 68]⟩, strA ⟨#[68, 73, 82, 69, 67, 84]⟩, strA ⟨#[72, 79, 76, 68]⟩, strA ⟨#[67, 79, 78, 84, 65, 67, 84]⟩, strA ⟨#[76, 65, 78, 68]⟩] | 3 => some [AV.sc (.float .f64 13666448263388469915), AV.sc (.float .f64 4477121864728985349), AV.sc (.float .f64 13732177093698800582), AV.sc (.float .f64 4537941361668146421), AV.sc (.float .f64 13787419979223748497), AV.sc (.float .f64 4586165620538955083)] | 4 => some [AV.sc (.float .f64 4460209587652500685), AV.sc (.float .f64 13716528389658582877), AV.sc (.float .f64 4523617212962785441), AV.sc (.float .f64 13774824197404483331), AV.sc (.float .f64 4575957461383575504), AV.sc (.float .f64 13818544856648471880)] | _ => none
def gval (g : Nat) : AV := match glb g with | some cs => .ept cs 0 | none => .und
noncomputable abbrev pg : Program := Tryd.prog
theorem fol : Tryd.prog.follows .mixedOrders = true := by kernel_rfl
def pureL : List Nat := [3, 4, 5, 6, 7, 8, 9, 10, 11, 12, 13, 16, 18, 20, 24, 25, 26, 27, 28, 35, 36, 37, 38, 39, 40, 41, 44, 45, 46, 47, 48, 49, 51, 52, 53, 54, 55, 57, 58, 59, 60, 62, 63, 64, 65, 66, 67, 68, 69, 70]
def KK : Cfg := ⟨fun f => pureL.contains f, glb⟩
def KF : Cfg := ⟨fun _ => false, glb⟩
structure TP where
  X : Int
  Y : Int
  deriving DecidableEq
def TP.E : En TP where
  size := 2
  enc m := [intA m.X, intA m.Y]
  len _ := rfl
  pos := by decide
  cell _ := rfl
  cln _ := rfl
  nrm _ := rfl
theorem TP.nf : NoFn TP.E := by
  intro x c hc f l
  simp only [TP.E, List.mem_cons, List.not_mem_nil, or_false] at hc
  rcases hc with rfl | rfl <;> exact (fun h => by cases h)
structure TTubeNode where
  Node_Time : Int
  Node_At_X : Int
  Node_At_Y : Int
  Node_Height : Int
  Radius : Int
  Band : Int
  deriving DecidableEq
def TTubeNode.E : En TTubeNode where
  size := 6
  enc m := [intA m.Node_Time, intA m.Node_At_X, intA m.Node_At_Y, intA m.Node_Height, intA m.Radius, intA m.Band]
  len _ := rfl
  pos := by decide
  cell _ := rfl
  cln _ := rfl
  nrm _ := rfl
theorem TTubeNode.nf : NoFn TTubeNode.E := by
  intro x c hc f l
  simp only [TTubeNode.E, List.mem_cons, List.not_mem_nil, or_false] at hc
  rcases hc with rfl | rfl | rfl | rfl | rfl | rfl <;> exact (fun h => by cases h)
structure TClearance where
  Call : ByteArray
  Kind : Int
  Value : Int
  Fix : ByteArray
  deriving DecidableEq
def TClearance.E : En TClearance where
  size := 4
  enc m := [strA m.Call, intA m.Kind, intA m.Value, strA m.Fix]
  len _ := rfl
  pos := by decide
  cell _ := rfl
  cln _ := rfl
  nrm _ := rfl
theorem TClearance.nf : NoFn TClearance.E := by
  intro x c hc f l
  simp only [TClearance.E, List.mem_cons, List.not_mem_nil, or_false] at hc
  rcases hc with rfl | rfl | rfl | rfl <;> exact (fun h => by cases h)
structure TKind where
  Name : ByteArray
  Wake : Int
  Ceiling : Int
  Climb : Int
  Descent : Int
  Slow : Int
  Fast : Int
  deriving DecidableEq
def TKind.E : En TKind where
  size := 7
  enc m := [strA m.Name, intA m.Wake, intA m.Ceiling, intA m.Climb, intA m.Descent, intA m.Slow, intA m.Fast]
  len _ := rfl
  pos := by decide
  cell _ := rfl
  cln _ := rfl
  nrm _ := rfl
theorem TKind.nf : NoFn TKind.E := by
  intro x c hc f l
  simp only [TKind.E, List.mem_cons, List.not_mem_nil, or_false] at hc
  rcases hc with rfl | rfl | rfl | rfl | rfl | rfl | rfl <;> exact (fun h => by cases h)
structure Ttask where
  Clearance_Call : ByteArray
  Clearance_Kind : Int
  Clearance_Value : Int
  Clearance_Fix : ByteArray
  before : (List TTubeNode)
  later : (List TTubeNode)
  now_Node_Time : Int
  now_Node_At_X : Int
  now_Node_At_Y : Int
  now_Node_Height : Int
  now_Radius : Int
  now_Band : Int
  kind_Name : ByteArray
  kind_Wake : Int
  kind_Ceiling : Int
  kind_Climb : Int
  kind_Descent : Int
  kind_Slow : Int
  kind_Fast : Int
  fix_X : Int
  fix_Y : Int
  whole : (List TTubeNode)
  deriving DecidableEq
def Ttask.E : En Ttask where
  size := 22
  enc m := [strA m.Clearance_Call, intA m.Clearance_Kind, intA m.Clearance_Value, strA m.Clearance_Fix, lstA TTubeNode.E m.before, lstA TTubeNode.E m.later, intA m.now_Node_Time, intA m.now_Node_At_X, intA m.now_Node_At_Y, intA m.now_Node_Height, intA m.now_Radius, intA m.now_Band, strA m.kind_Name, intA m.kind_Wake, intA m.kind_Ceiling, intA m.kind_Climb, intA m.kind_Descent, intA m.kind_Slow, intA m.kind_Fast, intA m.fix_X, intA m.fix_Y, lstA TTubeNode.E m.whole]
  len _ := rfl
  pos := by decide
  cell _ := rfl
  cln m := by simp [cleans, clean, encs_clean]
  nrm m := by simp [norms, norm, encs_norm]
theorem Ttask.nf : NoFn Ttask.E := by
  intro x c hc f l
  simp only [Ttask.E, List.mem_cons, List.not_mem_nil, or_false] at hc
  rcases hc with rfl | rfl | rfl | rfl | rfl | rfl | rfl | rfl | rfl | rfl | rfl | rfl | rfl | rfl | rfl | rfl | rfl | rfl | rfl | rfl | rfl | rfl <;> exact (fun h => by cases h)
theorem TP.neq29 (x y : TP) {ty n : Nat} {look : Nat → Option ABlk} : opA Tryd.prog (.binOp .neq 29 (.tmp 0) (.tmp 1) 29) ty [.agg [(intA x.X), (intA x.Y)], .agg [(intA y.X), (intA y.Y)]] look n = some (boolA (!(decide (x = y))), []) :=
  opA_neqG (xs := [.int .i64 x.X, .int .i64 x.Y]) (ys := [.int .i64 y.X, .int .i64 y.Y]) (by kernel_rfl) (by kernel_rfl) (by kernel_rfl) (eq_struct Tryd.underlying29 (by kernel_rfl) (eqF_cons (a := .int .i64 x.X) (b := .int .i64 y.X) (by decide) (by kernel_rfl) (by kernel_rfl) (eq_int Tryd.underlying3) (eqF_cons (a := .int .i64 x.Y) (b := .int .i64 y.Y) (by decide) (by kernel_rfl) (by kernel_rfl) (eq_int Tryd.underlying3) eqF_nil))) (by cases x; cases y; rw [Bool.eq_iff_iff]; simp [beqB, and_assoc, or_assoc])
structure TNode where
  Time : Int
  At_X : Int
  At_Y : Int
  Height : Int
  deriving DecidableEq
def TNode.E : En TNode where
  size := 4
  enc m := [intA m.Time, intA m.At_X, intA m.At_Y, intA m.Height]
  len _ := rfl
  pos := by decide
  cell _ := rfl
  cln _ := rfl
  nrm _ := rfl
theorem TNode.nf : NoFn TNode.E := by
  intro x c hc f l
  simp only [TNode.E, List.mem_cons, List.not_mem_nil, or_false] at hc
  rcases hc with rfl | rfl | rfl | rfl <;> exact (fun h => by cases h)
theorem TNode.neq38 (x y : TNode) {ty n : Nat} {look : Nat → Option ABlk} : opA Tryd.prog (.binOp .neq 38 (.tmp 0) (.tmp 1) 38) ty [.agg [(intA x.Time), (intA x.At_X), (intA x.At_Y), (intA x.Height)], .agg [(intA y.Time), (intA y.At_X), (intA y.At_Y), (intA y.Height)]] look n = some (boolA (!(decide (x = y))), []) :=
  opA_neqG (xs := [.int .i64 x.Time, .int .i64 x.At_X, .int .i64 x.At_Y, .int .i64 x.Height]) (ys := [.int .i64 y.Time, .int .i64 y.At_X, .int .i64 y.At_Y, .int .i64 y.Height]) (by kernel_rfl) (by kernel_rfl) (by kernel_rfl) (eq_struct Tryd.underlying38 (by kernel_rfl) (eqF_cons (a := .int .i64 x.Time) (b := .int .i64 y.Time) (by decide) (by kernel_rfl) (by kernel_rfl) (eq_int Tryd.underlying3) (eqF_cons (a := .agg #[.int .i64 x.At_X, .int .i64 x.At_Y]) (b := .agg #[.int .i64 y.At_X, .int .i64 y.At_Y]) (by decide) (by kernel_rfl) (by kernel_rfl) (eq_struct Tryd.underlying29 (by kernel_rfl) (eqF_cons (a := .int .i64 x.At_X) (b := .int .i64 y.At_X) (by decide) (by kernel_rfl) (by kernel_rfl) (eq_int Tryd.underlying3) (eqF_cons (a := .int .i64 x.At_Y) (b := .int .i64 y.At_Y) (by decide) (by kernel_rfl) (by kernel_rfl) (eq_int Tryd.underlying3) eqF_nil))) (eqF_cons (a := .int .i64 x.Height) (b := .int .i64 y.Height) (by decide) (by kernel_rfl) (by kernel_rfl) (eq_int Tryd.underlying3) eqF_nil)))) (by cases x; cases y; rw [Bool.eq_iff_iff]; simp [beqB, and_assoc, or_assoc])
end Go.Proofs.YtbbfpbngnkjkdaaDoor
