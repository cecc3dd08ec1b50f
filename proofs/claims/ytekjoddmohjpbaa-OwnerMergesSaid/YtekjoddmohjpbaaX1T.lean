/- The program's types as plain ones; its package-level variables; functions that are called with memory of their own. Printed by wip/Ext.lean.txt. -/
import Derived.Test.YtekjoddmohjpbaaPJ
import Derived.KernelRfl
set_option linter.unusedVariables false
set_option linter.unusedSimpArgs false
namespace Go.Proofs.Ytekjoddmohjpbaa
def glb : Nat → Option (List AV) := fun _ => none
def gval (g : Nat) : AV := match glb g with | some cs => .ept cs 0 | none => .und
theorem fol : Try.prog.follows .mixedOrders = true := by kernel_rfl
def pureL : List Nat := [3, 4, 5, 6, 7, 8, 9, 10, 11, 12, 13, 14, 15, 16, 19, 20, 21, 24, 27, 34, 36, 44, 49, 56]
def KK : Cfg := ⟨fun f => pureL.contains f, glb⟩
def KF : Cfg := ⟨fun _ => false, glb⟩
structure TOwnerEntry where
  Call : ByteArray
  Owner : ByteArray
  Offered : ByteArray
  deriving DecidableEq
def TOwnerEntry.E : En TOwnerEntry where
  size := 3
  enc m := [strA m.Call, strA m.Owner, strA m.Offered]
  len _ := rfl
  pos := by decide
  cell _ := rfl
  cln _ := rfl
  nrm _ := rfl
theorem TOwnerEntry.nf : NoFn TOwnerEntry.E := by
  intro x c hc f l
  simp only [TOwnerEntry.E, List.mem_cons, List.not_mem_nil, or_false] at hc
  rcases hc with rfl | rfl | rfl <;> exact (fun h => by cases h)
theorem TOwnerEntry.eql32 (x y : TOwnerEntry) {ty n : Nat} {look : Nat → Option ABlk} : opA Try.prog (.binOp .eql 32 (.tmp 0) (.tmp 1) 32) ty [.agg [(strA x.Call), (strA x.Owner), (strA x.Offered)], .agg [(strA y.Call), (strA y.Owner), (strA y.Offered)]] look n = some (boolA (decide (x = y)), []) :=
  opA_eqlG (xs := [.string x.Call, .string x.Owner, .string x.Offered]) (ys := [.string y.Call, .string y.Owner, .string y.Offered]) (by kernel_rfl) (by kernel_rfl) (by kernel_rfl) (eq_struct Try.underlying32 (by kernel_rfl) (eqF_cons (a := .string x.Call) (b := .string y.Call) (by decide) (by kernel_rfl) (by kernel_rfl) (eq_str Try.underlying9) (eqF_cons (a := .string x.Owner) (b := .string y.Owner) (by decide) (by kernel_rfl) (by kernel_rfl) (eq_str Try.underlying9) (eqF_cons (a := .string x.Offered) (b := .string y.Offered) (by decide) (by kernel_rfl) (by kernel_rfl) (eq_str Try.underlying9) eqF_nil)))) (by cases x; cases y; rw [Bool.eq_iff_iff]; simp [beqB, and_assoc, or_assoc])
theorem TOwnerEntry.neq32 (x y : TOwnerEntry) {ty n : Nat} {look : Nat → Option ABlk} : opA Try.prog (.binOp .neq 32 (.tmp 0) (.tmp 1) 32) ty [.agg [(strA x.Call), (strA x.Owner), (strA x.Offered)], .agg [(strA y.Call), (strA y.Owner), (strA y.Offered)]] look n = some (boolA (!(decide (x = y))), []) :=
  opA_neqG (xs := [.string x.Call, .string x.Owner, .string x.Offered]) (ys := [.string y.Call, .string y.Owner, .string y.Offered]) (by kernel_rfl) (by kernel_rfl) (by kernel_rfl) (eq_struct Try.underlying32 (by kernel_rfl) (eqF_cons (a := .string x.Call) (b := .string y.Call) (by decide) (by kernel_rfl) (by kernel_rfl) (eq_str Try.underlying9) (eqF_cons (a := .string x.Owner) (b := .string y.Owner) (by decide) (by kernel_rfl) (by kernel_rfl) (eq_str Try.underlying9) (eqF_cons (a := .string x.Offered) (b := .string y.Offered) (by decide) (by kernel_rfl) (by kernel_rfl) (eq_str Try.underlying9) eqF_nil)))) (by cases x; cases y; rw [Bool.eq_iff_iff]; simp [beqB, and_assoc, or_assoc])
end Go.Proofs.Ytekjoddmohjpbaa
