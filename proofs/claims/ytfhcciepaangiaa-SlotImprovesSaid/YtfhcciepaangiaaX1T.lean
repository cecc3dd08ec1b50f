/- The program's types as plain ones; its package-level variables; functions that are called with memory of their own. Printed by wip/Ext.lean.txt. -/
import Derived.Test.YtfhcciepaangiaaPG
import Derived.KernelRfl
set_option linter.unusedVariables false
set_option linter.unusedSimpArgs false
namespace Go.Proofs.Ytfhcciepaangiaa
def glb : Nat → Option (List AV) := fun _ => none
def gval (g : Nat) : AV := match glb g with | some cs => .ept cs 0 | none => .und
theorem fol : Try.prog.follows .mixedOrders = true := by kernel_rfl
def pureL : List Nat := [3, 4, 5, 6, 7, 8, 9, 10, 11, 13, 17, 18, 20, 22, 24, 28, 29, 30, 31, 33, 34, 35, 37, 38, 39, 40, 44, 46, 48, 49, 53, 54]
def KK : Cfg := ⟨fun f => pureL.contains f, glb⟩
def KF : Cfg := ⟨fun _ => false, glb⟩
structure TSlotDemand where
  Call : ByteArray
  Time : Int
  deriving DecidableEq
def TSlotDemand.E : En TSlotDemand where
  size := 2
  enc m := [strA m.Call, intA m.Time]
  len _ := rfl
  pos := by decide
  cell _ := rfl
  cln _ := rfl
  nrm _ := rfl
theorem TSlotDemand.nf : NoFn TSlotDemand.E := by
  intro x c hc f l
  simp only [TSlotDemand.E, List.mem_cons, List.not_mem_nil, or_false] at hc
  rcases hc with rfl | rfl <;> exact (fun h => by cases h)
structure TFlowCap where
  Span_From : Int
  Span_To : Int
  Many : Int
  deriving DecidableEq
def TFlowCap.E : En TFlowCap where
  size := 3
  enc m := [intA m.Span_From, intA m.Span_To, intA m.Many]
  len _ := rfl
  pos := by decide
  cell _ := rfl
  cln _ := rfl
  nrm _ := rfl
theorem TFlowCap.nf : NoFn TFlowCap.E := by
  intro x c hc f l
  simp only [TFlowCap.E, List.mem_cons, List.not_mem_nil, or_false] at hc
  rcases hc with rfl | rfl | rfl <;> exact (fun h => by cases h)
structure TSlot where
  Call : ByteArray
  Place : ByteArray
  Time : Int
  deriving DecidableEq
def TSlot.E : En TSlot where
  size := 3
  enc m := [strA m.Call, strA m.Place, intA m.Time]
  len _ := rfl
  pos := by decide
  cell _ := rfl
  cln _ := rfl
  nrm _ := rfl
theorem TSlot.nf : NoFn TSlot.E := by
  intro x c hc f l
  simp only [TSlot.E, List.mem_cons, List.not_mem_nil, or_false] at hc
  rcases hc with rfl | rfl | rfl <;> exact (fun h => by cases h)
theorem TSlot.eql49 (x y : TSlot) {ty n : Nat} {look : Nat → Option ABlk} : opA Try.prog (.binOp .eql 49 (.tmp 0) (.tmp 1) 49) ty [.agg [(strA x.Call), (strA x.Place), (intA x.Time)], .agg [(strA y.Call), (strA y.Place), (intA y.Time)]] look n = some (boolA (decide (x = y)), []) :=
  opA_eqlG (xs := [.string x.Call, .string x.Place, .int .i64 x.Time]) (ys := [.string y.Call, .string y.Place, .int .i64 y.Time]) (by kernel_rfl) (by kernel_rfl) (by kernel_rfl) (eq_struct Try.underlying49 (by kernel_rfl) (eqF_cons (a := .string x.Call) (b := .string y.Call) (by decide) (by kernel_rfl) (by kernel_rfl) (eq_str Try.underlying9) (eqF_cons (a := .string x.Place) (b := .string y.Place) (by decide) (by kernel_rfl) (by kernel_rfl) (eq_str Try.underlying9) (eqF_cons (a := .int .i64 x.Time) (b := .int .i64 y.Time) (by decide) (by kernel_rfl) (by kernel_rfl) (eq_int Try.underlying3) eqF_nil)))) (by cases x; cases y; rw [Bool.eq_iff_iff]; simp [beqB])
theorem TSlot.neq49 (x y : TSlot) {ty n : Nat} {look : Nat → Option ABlk} : opA Try.prog (.binOp .neq 49 (.tmp 0) (.tmp 1) 49) ty [.agg [(strA x.Call), (strA x.Place), (intA x.Time)], .agg [(strA y.Call), (strA y.Place), (intA y.Time)]] look n = some (boolA (!(decide (x = y))), []) :=
  opA_neqG (xs := [.string x.Call, .string x.Place, .int .i64 x.Time]) (ys := [.string y.Call, .string y.Place, .int .i64 y.Time]) (by kernel_rfl) (by kernel_rfl) (by kernel_rfl) (eq_struct Try.underlying49 (by kernel_rfl) (eqF_cons (a := .string x.Call) (b := .string y.Call) (by decide) (by kernel_rfl) (by kernel_rfl) (eq_str Try.underlying9) (eqF_cons (a := .string x.Place) (b := .string y.Place) (by decide) (by kernel_rfl) (by kernel_rfl) (eq_str Try.underlying9) (eqF_cons (a := .int .i64 x.Time) (b := .int .i64 y.Time) (by decide) (by kernel_rfl) (by kernel_rfl) (eq_int Try.underlying3) eqF_nil)))) (by cases x; cases y; rw [Bool.eq_iff_iff]; simp [beqB])
end Go.Proofs.Ytfhcciepaangiaa
