/- The program's types as plain ones; its package-level variables; functions that are called with memory of their own. Printed by wip/Ext.lean.txt. -/
import Derived.Test.YtfmodgffhbljoaaPI
import Derived.KernelRfl
set_option linter.unusedVariables false
set_option linter.unusedSimpArgs false
namespace Go.Proofs.Ytfmodgffhbljoaa
def glb : Nat → Option (List AV) := fun _ => none
def gval (g : Nat) : AV := match glb g with | some cs => .ept cs 0 | none => .und
theorem fol : Try.prog.follows .mixedOrders = true := by kernel_rfl
def pureL : List Nat := [3, 4, 5, 6, 7, 8, 9, 10, 11, 12, 13, 15, 16, 17, 19, 20, 22, 24, 26, 27, 28, 29, 30, 31, 32, 34, 35, 36, 37, 38, 39, 40, 41, 42, 44, 45, 46, 47, 50, 53, 54, 55, 58, 59, 60, 62, 63, 65, 66, 69, 71]
def KK : Cfg := ⟨fun f => pureL.contains f, glb⟩
def KF : Cfg := ⟨fun _ => false, glb⟩
structure TRunwayMove where
  Time : Int
  Wake : Int
  Departs : Bool
  End : Int
  deriving DecidableEq
def TRunwayMove.E : En TRunwayMove where
  size := 4
  enc m := [intA m.Time, intA m.Wake, boolA m.Departs, intA m.End]
  len _ := rfl
  pos := by decide
  cell _ := rfl
  cln _ := rfl
  nrm _ := rfl
theorem TRunwayMove.nf : NoFn TRunwayMove.E := by
  intro x c hc f l
  simp only [TRunwayMove.E, List.mem_cons, List.not_mem_nil, or_false] at hc
  rcases hc with rfl | rfl | rfl | rfl <;> exact (fun h => by cases h)
structure TRunwaySpan where
  From : Int
  End : Int
  deriving DecidableEq
def TRunwaySpan.E : En TRunwaySpan where
  size := 2
  enc m := [intA m.From, intA m.End]
  len _ := rfl
  pos := by decide
  cell _ := rfl
  cln _ := rfl
  nrm _ := rfl
theorem TRunwaySpan.nf : NoFn TRunwaySpan.E := by
  intro x c hc f l
  simp only [TRunwaySpan.E, List.mem_cons, List.not_mem_nil, or_false] at hc
  rcases hc with rfl | rfl <;> exact (fun h => by cases h)
structure TWakeTable where
  c0_0 : Int
  c0_1 : Int
  c0_2 : Int
  c0_3 : Int
  c1_0 : Int
  c1_1 : Int
  c1_2 : Int
  c1_3 : Int
  c2_0 : Int
  c2_1 : Int
  c2_2 : Int
  c2_3 : Int
  c3_0 : Int
  c3_1 : Int
  c3_2 : Int
  c3_3 : Int
  deriving DecidableEq
def TWakeTable.E : En TWakeTable where
  size := 16
  enc m := [intA m.c0_0, intA m.c0_1, intA m.c0_2, intA m.c0_3, intA m.c1_0, intA m.c1_1, intA m.c1_2, intA m.c1_3, intA m.c2_0, intA m.c2_1, intA m.c2_2, intA m.c2_3, intA m.c3_0, intA m.c3_1, intA m.c3_2, intA m.c3_3]
  len _ := rfl
  pos := by decide
  cell _ := rfl
  cln _ := rfl
  nrm _ := rfl
theorem TWakeTable.nf : NoFn TWakeTable.E := by
  intro x c hc f l
  simp only [TWakeTable.E, List.mem_cons, List.not_mem_nil, or_false] at hc
  rcases hc with rfl | rfl | rfl | rfl | rfl | rfl | rfl | rfl | rfl | rfl | rfl | rfl | rfl | rfl | rfl | rfl <;> exact (fun h => by cases h)
structure TRunwayReady where
  Time : Int
  Wake : Int
  deriving DecidableEq
def TRunwayReady.E : En TRunwayReady where
  size := 2
  enc m := [intA m.Time, intA m.Wake]
  len _ := rfl
  pos := by decide
  cell _ := rfl
  cln _ := rfl
  nrm _ := rfl
theorem TRunwayReady.nf : NoFn TRunwayReady.E := by
  intro x c hc f l
  simp only [TRunwayReady.E, List.mem_cons, List.not_mem_nil, or_false] at hc
  rcases hc with rfl | rfl <;> exact (fun h => by cases h)
structure T22 where
  c0 : Int
  c1 : Int
  c2 : Int
  c3 : Int
  deriving DecidableEq
def T22.E : En T22 where
  size := 4
  enc m := [intA m.c0, intA m.c1, intA m.c2, intA m.c3]
  len _ := rfl
  pos := by decide
  cell _ := rfl
  cln _ := rfl
  nrm _ := rfl
theorem T22.nf : NoFn T22.E := by
  intro x c hc f l
  simp only [T22.E, List.mem_cons, List.not_mem_nil, or_false] at hc
  rcases hc with rfl | rfl | rfl | rfl <;> exact (fun h => by cases h)
theorem TRunwayMove.eql52 (x y : TRunwayMove) {ty n : Nat} {look : Nat → Option ABlk} : opA Try.prog (.binOp .eql 52 (.tmp 0) (.tmp 1) 52) ty [.agg [(intA x.Time), (intA x.Wake), (boolA x.Departs), (intA x.End)], .agg [(intA y.Time), (intA y.Wake), (boolA y.Departs), (intA y.End)]] look n = some (boolA (decide (x = y)), []) :=
  opA_eqlG (xs := [.int .i64 x.Time, .int .i64 x.Wake, .bool x.Departs, .int .i64 x.End]) (ys := [.int .i64 y.Time, .int .i64 y.Wake, .bool y.Departs, .int .i64 y.End]) (by kernel_rfl) (by kernel_rfl) (by kernel_rfl) (eq_struct Try.underlying52 (by kernel_rfl) (eqF_cons (a := .int .i64 x.Time) (b := .int .i64 y.Time) (by decide) (by kernel_rfl) (by kernel_rfl) (eq_int Try.underlying3) (eqF_cons (a := .int .i64 x.Wake) (b := .int .i64 y.Wake) (by decide) (by kernel_rfl) (by kernel_rfl) (eq_int Try.underlying3) (eqF_cons (a := .bool x.Departs) (b := .bool y.Departs) (by decide) (by kernel_rfl) (by kernel_rfl) (eq_bool Try.underlying4) (eqF_cons (a := .int .i64 x.End) (b := .int .i64 y.End) (by decide) (by kernel_rfl) (by kernel_rfl) (eq_int Try.underlying3) eqF_nil))))) (by cases x; cases y; rw [Bool.eq_iff_iff]; simp [beqB, and_assoc, or_assoc])
theorem TRunwayMove.neq52 (x y : TRunwayMove) {ty n : Nat} {look : Nat → Option ABlk} : opA Try.prog (.binOp .neq 52 (.tmp 0) (.tmp 1) 52) ty [.agg [(intA x.Time), (intA x.Wake), (boolA x.Departs), (intA x.End)], .agg [(intA y.Time), (intA y.Wake), (boolA y.Departs), (intA y.End)]] look n = some (boolA (!(decide (x = y))), []) :=
  opA_neqG (xs := [.int .i64 x.Time, .int .i64 x.Wake, .bool x.Departs, .int .i64 x.End]) (ys := [.int .i64 y.Time, .int .i64 y.Wake, .bool y.Departs, .int .i64 y.End]) (by kernel_rfl) (by kernel_rfl) (by kernel_rfl) (eq_struct Try.underlying52 (by kernel_rfl) (eqF_cons (a := .int .i64 x.Time) (b := .int .i64 y.Time) (by decide) (by kernel_rfl) (by kernel_rfl) (eq_int Try.underlying3) (eqF_cons (a := .int .i64 x.Wake) (b := .int .i64 y.Wake) (by decide) (by kernel_rfl) (by kernel_rfl) (eq_int Try.underlying3) (eqF_cons (a := .bool x.Departs) (b := .bool y.Departs) (by decide) (by kernel_rfl) (by kernel_rfl) (eq_bool Try.underlying4) (eqF_cons (a := .int .i64 x.End) (b := .int .i64 y.End) (by decide) (by kernel_rfl) (by kernel_rfl) (eq_int Try.underlying3) eqF_nil))))) (by cases x; cases y; rw [Bool.eq_iff_iff]; simp [beqB, and_assoc, or_assoc])
end Go.Proofs.Ytfmodgffhbljoaa
