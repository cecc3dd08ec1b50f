/- The program's types as plain ones; its package-level variables; functions that are called with memory of their own. Printed by wip/Ext.lean.txt. -/
import Derived.Test.YtnechdhngpajbaaDoorPJ
import Derived.KernelRfl
set_option linter.unusedVariables false
set_option linter.unusedSimpArgs false
namespace Go.Proofs.YtnechdhngpajbaaDoor
def glb : Nat → Option (List AV) := fun g => match g with | 0 => some [intA 60000, intA 4095, intA 400] | 1 => some [strA ⟨#[72, 69, 73, 71, 72, 84]⟩, strA ⟨#[72, 69, 65, 68, 73, 78, 71]⟩, strA ⟨#[83, 80, 69, 69, 68]⟩, strA ⟨#[68, 73, 82, 69, 67, 84]⟩, strA ⟨#[72, 79, 76, 68]⟩, strA ⟨#[67, 79, 78, 84, 65, 67, 84]⟩, strA ⟨#[76, 65, 78, 68]⟩] | 3 => some [.ifc false] | 4 => some [.ifc false] | 5 => some [.sc (.int .u64 1), .sc (.int .u64 10), .sc (.int .u64 100), .sc (.int .u64 1000), .sc (.int .u64 10000), .sc (.int .u64 100000), .sc (.int .u64 1000000), .sc (.int .u64 10000000), .sc (.int .u64 100000000), .sc (.int .u64 1000000000), .sc (.int .u64 10000000000), .sc (.int .u64 100000000000), .sc (.int .u64 1000000000000), .sc (.int .u64 10000000000000), .sc (.int .u64 100000000000000), .sc (.int .u64 1000000000000000), .sc (.int .u64 10000000000000000), .sc (.int .u64 100000000000000000), .sc (.int .u64 1000000000000000000), .sc (.int .u64 10000000000000000000)] | _ => none
def gval (g : Nat) : AV := match glb g with | some cs => .ept cs 0 | none => .und
theorem fol : Tryd.prog.follows .mixedOrders = true := by kernel_rfl
def pureL : List Nat := [3, 4, 5, 6, 7, 8, 9, 10, 11, 12, 13, 14, 15, 16, 17, 18, 19, 20, 21, 22, 23, 24, 25, 27, 29, 30, 31, 32, 33, 34, 35, 36, 38, 39, 40, 41, 42, 43, 45, 46, 47, 48, 50, 57, 58, 59, 60]
def KK : Cfg := ⟨fun f => pureL.contains f, glb⟩
def KF : Cfg := ⟨fun _ => false, glb⟩
structure TClearance where
  Call : ByteArray
  Kind : Int
  Value : Int
  Fix : ByteArray
  deriving DecidableEq
def TClearance.E : En TClearance where
  size := 4
  enc m := [strA m.Call, intA m.Kind, intA m.Value, strA m.Fix]
  len _ := rfl
  pos := by decide
  cell _ := rfl
  cln _ := rfl
  nrm _ := rfl
theorem TClearance.nf : NoFn TClearance.E := by
  intro x c hc f l
  simp only [TClearance.E, List.mem_cons, List.not_mem_nil, or_false] at hc
  rcases hc with rfl | rfl | rfl | rfl <;> exact (fun h => by cases h)
theorem TClearance.eql24 (x y : TClearance) {ty n : Nat} {look : Nat → Option ABlk} : opA Tryd.prog (.binOp .eql 24 (.tmp 0) (.tmp 1) 24) ty [.agg [(strA x.Call), (intA x.Kind), (intA x.Value), (strA x.Fix)], .agg [(strA y.Call), (intA y.Kind), (intA y.Value), (strA y.Fix)]] look n = some (boolA (decide (x = y)), []) :=
  opA_eqlG (xs := [.string x.Call, .int .i64 x.Kind, .int .i64 x.Value, .string x.Fix]) (ys := [.string y.Call, .int .i64 y.Kind, .int .i64 y.Value, .string y.Fix]) (by kernel_rfl) (by kernel_rfl) (by kernel_rfl) (eq_struct Tryd.underlying24 (by kernel_rfl) (eqF_cons (a := .string x.Call) (b := .string y.Call) (by decide) (by kernel_rfl) (by kernel_rfl) (eq_str Tryd.underlying9) (eqF_cons (a := .int .i64 x.Kind) (b := .int .i64 y.Kind) (by decide) (by kernel_rfl) (by kernel_rfl) (eq_int Tryd.underlying3) (eqF_cons (a := .int .i64 x.Value) (b := .int .i64 y.Value) (by decide) (by kernel_rfl) (by kernel_rfl) (eq_int Tryd.underlying3) (eqF_cons (a := .string x.Fix) (b := .string y.Fix) (by decide) (by kernel_rfl) (by kernel_rfl) (eq_str Tryd.underlying9) eqF_nil))))) (by cases x; cases y; rw [Bool.eq_iff_iff]; simp [beqB, and_assoc, or_assoc])
theorem TClearance.neq24 (x y : TClearance) {ty n : Nat} {look : Nat → Option ABlk} : opA Tryd.prog (.binOp .neq 24 (.tmp 0) (.tmp 1) 24) ty [.agg [(strA x.Call), (intA x.Kind), (intA x.Value), (strA x.Fix)], .agg [(strA y.Call), (intA y.Kind), (intA y.Value), (strA y.Fix)]] look n = some (boolA (!(decide (x = y))), []) :=
  opA_neqG (xs := [.string x.Call, .int .i64 x.Kind, .int .i64 x.Value, .string x.Fix]) (ys := [.string y.Call, .int .i64 y.Kind, .int .i64 y.Value, .string y.Fix]) (by kernel_rfl) (by kernel_rfl) (by kernel_rfl) (eq_struct Tryd.underlying24 (by kernel_rfl) (eqF_cons (a := .string x.Call) (b := .string y.Call) (by decide) (by kernel_rfl) (by kernel_rfl) (eq_str Tryd.underlying9) (eqF_cons (a := .int .i64 x.Kind) (b := .int .i64 y.Kind) (by decide) (by kernel_rfl) (by kernel_rfl) (eq_int Tryd.underlying3) (eqF_cons (a := .int .i64 x.Value) (b := .int .i64 y.Value) (by decide) (by kernel_rfl) (by kernel_rfl) (eq_int Tryd.underlying3) (eqF_cons (a := .string x.Fix) (b := .string y.Fix) (by decide) (by kernel_rfl) (by kernel_rfl) (eq_str Tryd.underlying9) eqF_nil))))) (by cases x; cases y; rw [Bool.eq_iff_iff]; simp [beqB, and_assoc, or_assoc])
structure T67 where
  differs : Bool
  bit : Int
  deriving DecidableEq
def T67.E : En T67 where
  size := 2
  enc m := [boolA m.differs, intA m.bit]
  len _ := rfl
  pos := by decide
  cell _ := rfl
  cln _ := rfl
  nrm _ := rfl
theorem T67.nf : NoFn T67.E := by
  intro x c hc f l
  simp only [T67.E, List.mem_cons, List.not_mem_nil, or_false] at hc
  rcases hc with rfl | rfl <;> exact (fun h => by cases h)
end Go.Proofs.YtnechdhngpajbaaDoor
