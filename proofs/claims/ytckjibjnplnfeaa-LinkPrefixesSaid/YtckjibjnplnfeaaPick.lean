/- pick(a, n) is a number from 0 to n - 1. -/
import Derived.Test.YtckjibjnplnfeaaBase
set_option linter.unusedVariables false
set_option linter.unusedSimpArgs false
namespace Go.Proofs.Ytckjibjnplnfeaa
open Go.RowKit

def pickv (a n : Int) : Int := (IntKind.u64.wrap a) % n
theorem pickv_in (a : Int) {n : Int} (h : 0 < n) : 0 ≤ pickv a n ∧ pickv a n < n := ⟨Int.emod_nonneg _ (by omega), Int.emod_lt_of_pos _ h⟩

set_option maxHeartbeats 400000 in
theorem pick_any (a n : Int) (w : World) (h0 : 0 < n) (h1 : n ≤ 1000000) :
    Calls Try.prog 14 #[.int .i64 a, .int .i64 n] w fun e w' => e = .returned (.int .i64 (pickv a n)) ∧ w = w' := by
  have hp := pickv_in a h0
  have hw : 0 ≤ IntKind.u64.wrap a := by rw [IntKind.wrap_u64]; omega
  have hw2 : IntKind.u64.wrap n = n := by rw [IntWalk.u64_in]; omega
  have HP := Lib.hid hp
  have hne : ((n : Int) == 0) = false := by simp; omega
  go_enter Try.func14, Try.ntmps14
  go_wp2_with fail
  go_returns
  exact ⟨ret_int (by have := HP.out; unfold pickv at this; rw [IntWalk.wrap64_in _ ⟨by omega, by omega⟩]; rfl), rfl⟩

end Go.Proofs.Ytckjibjnplnfeaa
