/- The values of ownerFact. -/
import Derived.Test.YtekjoddmohjpbaaOwner11
set_option linter.unusedVariables false
set_option linter.unusedSimpArgs false
namespace Go.Proofs.Ytekjoddmohjpbaa
open Go.RowKit
attribute [local go_sem ↓] Go.wp_at_zero Go.wp_at_succ

def bA1 : ByteArray := ⟨#[65, 49]⟩
def bEast : ByteArray := ⟨#[69, 65, 83, 84]⟩
def bWest : ByteArray := ⟨#[87, 69, 83, 84]⟩
def en0 : OEntry := ⟨bA1, bEast, noS⟩
def en1 : OEntry := ⟨bA1, bEast, bWest⟩
def en2 : OEntry := ⟨bA1, bWest, noS⟩
theorem nmA : nameB bA1 = true := by decide +kernel
theorem nmE : nameB bEast = true := by decide +kernel
theorem nmW : nameB bWest = true := by decide +kernel
theorem fOfr : chE [en0] bA1 (fun x => ofrE x bEast bWest) = 0 ∧ chL [en0] bA1 (fun x => ofrE x bEast bWest) (fun x => ofrX x bWest) = [en1] := by decide +kernel
theorem fAcc : chE [en1] bA1 (fun x => accE x bWest) = 0 ∧ chL [en1] bA1 (fun x => accE x bWest) (fun x => accX x bWest) = [en2] := by decide +kernel
theorem fCan : chE [en1] bA1 (fun x => canE x bWest) = 0 ∧ chL [en1] bA1 (fun x => canE x bWest) canX = [en0] := by decide +kernel
theorem fOf : ofE [en2] bA1 = 0 ∧ ofV [en2] bA1 = bWest := by decide +kernel
theorem fFl : flE [en2] = 0 ∧ flL [en2] bWest = [bA1] := by decide +kernel
theorem fMv : mvE bWest bEast [en1] = 0 ∧ mvL bWest bEast [en1] = [en0] := by decide +kernel
theorem fEnd : chE [en2] bA1 (fun x => endE x bWest) = 0 ∧ chL [en2] bA1 (fun x => endE x bWest) endX = [] := by decide +kernel
theorem fEnd2 : chE [en2] bA1 (fun x => endE x bEast) = 16 := by decide +kernel
theorem fTw : ochk [en0, en0] = 7 := by decide +kernel

end Go.Proofs.Ytekjoddmohjpbaa
