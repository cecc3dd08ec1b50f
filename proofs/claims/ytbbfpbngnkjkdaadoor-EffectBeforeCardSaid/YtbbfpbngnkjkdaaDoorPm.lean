/- Bits of floats: functions without a body. -/
import Derived.Test.YtbbfpbngnkjkdaaDoorPL
set_option linter.unusedVariables false
namespace Go.Proofs.YtbbfpbngnkjkdaaDoor
theorem ext_bits (x : Nat) : ExtD Tryd.prog 62 [fltA x] (.sc (.int .u64 (x : Int))) := ext_of (vals := [.float .f64 x]) (ex := Extern.MathFloatBits.float64bits) Tryd.func62 (by kernel_rfl) (by kernel_rfl) (by kernel_rfl) (by kernel_rfl) (fun w => rfl) rfl
theorem ext_frombits (z : Int) : ExtD Tryd.prog 63 [.sc (.int .u64 z)] (fltA z.toNat) := ext_of (vals := [.int .u64 z]) (ex := Extern.MathFloatBits.float64frombits) Tryd.func63 (by kernel_rfl) (by kernel_rfl) (by kernel_rfl) (by kernel_rfl) (fun w => rfl) rfl
end Go.Proofs.YtbbfpbngnkjkdaaDoor
