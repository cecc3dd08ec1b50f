/- The program's types as plain ones; its package-level variables; functions that are called with memory of their own. Printed by wip/Ext.lean.txt. -/
import Derived.Test.YtbnnndfcaehlpaaGreatDoorPJ
import Derived.Test.YtbnnndfcaehlpaaGreatDoorPQ
import Derived.KernelRfl
set_option linter.unusedVariables false
set_option linter.unusedSimpArgs false
namespace Go.Proofs.YtbnnndfcaehlpaaGreatDoor
def glb : Nat → Option (List AV) := fun g => match g with | 0 => some [intA 60000, intA 4095, intA 400] | 1 => some [strA ⟨#[72, 69, 73, 71, 72, 84]⟩, strA ⟨#[72, 69, 65, 68, 73, 78, 71]⟩, strA ⟨#[83, 80, 69, 69, 68]⟩, strA ⟨#[68, 73, 82, 69, 67, 84]⟩, strA ⟨#[72, 79, 76, 68]⟩, strA ⟨#[67, 79, 78, 84, 65, 67, 84]⟩, strA ⟨#[76, 65, 78, 68]⟩] | 6 => some [AV.sc (.int .u64 1), AV.sc (.int .u64 10), AV.sc (.int .u64 100), AV.sc (.int .u64 1000), AV.sc (.int .u64 10000), AV.sc (.int .u64 100000), AV.sc (.int .u64 1000000), AV.sc (.int .u64 10000000), AV.sc (.int .u64 100000000), AV.sc (.int .u64 1000000000), AV.sc (.int .u64 10000000000), AV.sc (.int .u64 100000000000), AV.sc (.int .u64 1000000000000), AV.sc (.int .u64 10000000000000), AV.sc (.int .u64 100000000000000), AV.sc (.int .u64 1000000000000000), AV.sc (.int .u64 10000000000000000), AV.sc (.int .u64 100000000000000000), AV.sc (.int .u64 1000000000000000000), AV.sc (.int .u64 10000000000000000000)] | 9 => some [AV.sc (.float .f64 13666448263388469915), AV.sc (.float .f64 4477121864728985349), AV.sc (.float .f64 13732177093698800582), AV.sc (.float .f64 4537941361668146421), AV.sc (.float .f64 13787419979223748497), AV.sc (.float .f64 4586165620538955083)] | 10 => some [AV.sc (.float .f64 4460209587652500685), AV.sc (.float .f64 13716528389658582877), AV.sc (.float .f64 4523617212962785441), AV.sc (.float .f64 13774824197404483331), AV.sc (.float .f64 4575957461383575504), AV.sc (.float .f64 13818544856648471880)] | _ => none
def gval (g : Nat) : AV := match glb g with | some cs => .ept cs 0 | none => .und
noncomputable abbrev pg : Program := Tryz.prog
theorem fol : Tryz.prog.follows .mixedOrders = true := by kernel_rfl
def pureL : List Nat := [3, 4, 5, 6, 7, 10, 11, 12, 13, 14, 15, 16, 17, 18, 19, 20, 21, 22, 23, 24, 25, 27, 28, 29, 30, 31, 32, 33, 34, 35, 37, 38, 39, 40, 41, 44, 45, 46, 47, 50, 51, 52, 53, 54, 55, 58, 59, 60, 61, 62, 64, 67, 70, 72, 73, 74, 77, 78, 79, 80, 83, 84, 85, 86, 88, 89, 92, 93, 94, 95, 97, 98, 99, 100, 101, 102, 103, 104, 105, 106, 107, 109, 111, 113, 115, 116, 117, 123, 124, 125, 126, 127, 128, 129, 130, 132, 133, 134, 135, 136, 137, 138, 140, 141, 142, 145, 146, 149, 151, 152, 153, 155, 158, 159, 160, 162, 173, 179, 180, 181, 183, 185, 186, 187, 188, 189, 190, 193, 194, 195, 196, 197, 198, 207, 210, 220, 221, 244, 245, 246, 247, 248, 250, 251, 252, 253, 254, 258, 270, 271, 272, 273, 291, 292, 293, 299, 300, 301, 302, 313, 314, 315, 316, 318, 319, 320, 321, 322, 323, 324, 327, 328, 329, 330, 331, 335, 336, 337, 338]
def KK : Cfg := ⟨fun f => pureL.contains f, glb⟩
def KF : Cfg := ⟨fun _ => false, glb⟩
structure TSep where
  Lateral : Int
  Vertical : Int
  deriving DecidableEq
def TSep.E : En TSep where
  size := 2
  enc m := [intA m.Lateral, intA m.Vertical]
  len _ := rfl
  pos := by decide
  cell _ := rfl
  cln _ := rfl
  nrm _ := rfl
theorem TSep.nf : NoFn TSep.E := by
  intro x c hc f l
  simp only [TSep.E, List.mem_cons, List.not_mem_nil, or_false] at hc
  rcases hc with rfl | rfl <;> exact (fun h => by cases h)
structure TTubeNode where
  Node_Time : Int
  Node_At_X : Int
  Node_At_Y : Int
  Node_Height : Int
  Radius : Int
  Band : Int
  deriving DecidableEq
def TTubeNode.E : En TTubeNode where
  size := 6
  enc m := [intA m.Node_Time, intA m.Node_At_X, intA m.Node_At_Y, intA m.Node_Height, intA m.Radius, intA m.Band]
  len _ := rfl
  pos := by decide
  cell _ := rfl
  cln _ := rfl
  nrm _ := rfl
theorem TTubeNode.nf : NoFn TTubeNode.E := by
  intro x c hc f l
  simp only [TTubeNode.E, List.mem_cons, List.not_mem_nil, or_false] at hc
  rcases hc with rfl | rfl | rfl | rfl | rfl | rfl <;> exact (fun h => by cases h)
structure TP where
  X : Int
  Y : Int
  deriving DecidableEq
def TP.E : En TP where
  size := 2
  enc m := [intA m.X, intA m.Y]
  len _ := rfl
  pos := by decide
  cell _ := rfl
  cln _ := rfl
  nrm _ := rfl
theorem TP.nf : NoFn TP.E := by
  intro x c hc f l
  simp only [TP.E, List.mem_cons, List.not_mem_nil, or_false] at hc
  rcases hc with rfl | rfl <;> exact (fun h => by cases h)
structure TSpan where
  From : Int
  To : Int
  deriving DecidableEq
def TSpan.E : En TSpan where
  size := 2
  enc m := [intA m.From, intA m.To]
  len _ := rfl
  pos := by decide
  cell _ := rfl
  cln _ := rfl
  nrm _ := rfl
theorem TSpan.nf : NoFn TSpan.E := by
  intro x c hc f l
  simp only [TSpan.E, List.mem_cons, List.not_mem_nil, or_false] at hc
  rcases hc with rfl | rfl <;> exact (fun h => by cases h)
structure TTaxiStand where
  Name : ByteArray
  Time : Int
  deriving DecidableEq
def TTaxiStand.E : En TTaxiStand where
  size := 2
  enc m := [strA m.Name, intA m.Time]
  len _ := rfl
  pos := by decide
  cell _ := rfl
  cln _ := rfl
  nrm _ := rfl
theorem TTaxiStand.nf : NoFn TTaxiStand.E := by
  intro x c hc f l
  simp only [TTaxiStand.E, List.mem_cons, List.not_mem_nil, or_false] at hc
  rcases hc with rfl | rfl <;> exact (fun h => by cases h)
structure TTaxiAsk where
  Call : ByteArray
  Stand : ByteArray
  Ready : Int
  deriving DecidableEq
def TTaxiAsk.E : En TTaxiAsk where
  size := 3
  enc m := [strA m.Call, strA m.Stand, intA m.Ready]
  len _ := rfl
  pos := by decide
  cell _ := rfl
  cln _ := rfl
  nrm _ := rfl
theorem TTaxiAsk.nf : NoFn TTaxiAsk.E := by
  intro x c hc f l
  simp only [TTaxiAsk.E, List.mem_cons, List.not_mem_nil, or_false] at hc
  rcases hc with rfl | rfl | rfl <;> exact (fun h => by cases h)
structure TWakeTable where
  c0_0 : Int
  c0_1 : Int
  c0_2 : Int
  c0_3 : Int
  c1_0 : Int
  c1_1 : Int
  c1_2 : Int
  c1_3 : Int
  c2_0 : Int
  c2_1 : Int
  c2_2 : Int
  c2_3 : Int
  c3_0 : Int
  c3_1 : Int
  c3_2 : Int
  c3_3 : Int
  deriving DecidableEq
def TWakeTable.E : En TWakeTable where
  size := 16
  enc m := [intA m.c0_0, intA m.c0_1, intA m.c0_2, intA m.c0_3, intA m.c1_0, intA m.c1_1, intA m.c1_2, intA m.c1_3, intA m.c2_0, intA m.c2_1, intA m.c2_2, intA m.c2_3, intA m.c3_0, intA m.c3_1, intA m.c3_2, intA m.c3_3]
  len _ := rfl
  pos := by decide
  cell _ := rfl
  cln _ := rfl
  nrm _ := rfl
theorem TWakeTable.nf : NoFn TWakeTable.E := by
  intro x c hc f l
  simp only [TWakeTable.E, List.mem_cons, List.not_mem_nil, or_false] at hc
  rcases hc with rfl | rfl | rfl | rfl | rfl | rfl | rfl | rfl | rfl | rfl | rfl | rfl | rfl | rfl | rfl | rfl <;> exact (fun h => by cases h)
structure T29 where
  c0 : Int
  c1 : Int
  c2 : Int
  c3 : Int
  deriving DecidableEq
def T29.E : En T29 where
  size := 4
  enc m := [intA m.c0, intA m.c1, intA m.c2, intA m.c3]
  len _ := rfl
  pos := by decide
  cell _ := rfl
  cln _ := rfl
  nrm _ := rfl
theorem T29.nf : NoFn T29.E := by
  intro x c hc f l
  simp only [T29.E, List.mem_cons, List.not_mem_nil, or_false] at hc
  rcases hc with rfl | rfl | rfl | rfl <;> exact (fun h => by cases h)
structure TTaxiMove where
  Call : ByteArray
  Push : Int
  Hold : Int
  Leave : Int
  deriving DecidableEq
def TTaxiMove.E : En TTaxiMove where
  size := 4
  enc m := [strA m.Call, intA m.Push, intA m.Hold, intA m.Leave]
  len _ := rfl
  pos := by decide
  cell _ := rfl
  cln _ := rfl
  nrm _ := rfl
theorem TTaxiMove.nf : NoFn TTaxiMove.E := by
  intro x c hc f l
  simp only [TTaxiMove.E, List.mem_cons, List.not_mem_nil, or_false] at hc
  rcases hc with rfl | rfl | rfl | rfl <;> exact (fun h => by cases h)
structure TRunwayReady where
  Time : Int
  Wake : Int
  deriving DecidableEq
def TRunwayReady.E : En TRunwayReady where
  size := 2
  enc m := [intA m.Time, intA m.Wake]
  len _ := rfl
  pos := by decide
  cell _ := rfl
  cln _ := rfl
  nrm _ := rfl
theorem TRunwayReady.nf : NoFn TRunwayReady.E := by
  intro x c hc f l
  simp only [TRunwayReady.E, List.mem_cons, List.not_mem_nil, or_false] at hc
  rcases hc with rfl | rfl <;> exact (fun h => by cases h)
structure TRunwaySpan where
  From : Int
  End : Int
  deriving DecidableEq
def TRunwaySpan.E : En TRunwaySpan where
  size := 2
  enc m := [intA m.From, intA m.End]
  len _ := rfl
  pos := by decide
  cell _ := rfl
  cln _ := rfl
  nrm _ := rfl
theorem TRunwaySpan.nf : NoFn TRunwaySpan.E := by
  intro x c hc f l
  simp only [TRunwaySpan.E, List.mem_cons, List.not_mem_nil, or_false] at hc
  rcases hc with rfl | rfl <;> exact (fun h => by cases h)
structure TRunwayMove where
  Time : Int
  Wake : Int
  Departs : Bool
  End : Int
  deriving DecidableEq
def TRunwayMove.E : En TRunwayMove where
  size := 4
  enc m := [intA m.Time, intA m.Wake, boolA m.Departs, intA m.End]
  len _ := rfl
  pos := by decide
  cell _ := rfl
  cln _ := rfl
  nrm _ := rfl
theorem TRunwayMove.nf : NoFn TRunwayMove.E := by
  intro x c hc f l
  simp only [TRunwayMove.E, List.mem_cons, List.not_mem_nil, or_false] at hc
  rcases hc with rfl | rfl | rfl | rfl <;> exact (fun h => by cases h)
end Go.Proofs.YtbnnndfcaehlpaaGreatDoor
