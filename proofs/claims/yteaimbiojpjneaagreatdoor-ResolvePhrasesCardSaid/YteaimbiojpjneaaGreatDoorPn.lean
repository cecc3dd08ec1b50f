/- Bits of floats, the floor: functions without a body. -/
import Derived.Test.YteaimbiojpjneaaGreatDoorPL
set_option linter.unusedVariables false
namespace Go.Proofs.YteaimbiojpjneaaGreatDoor
theorem ext_bits (x : Nat) : ExtD Tryz.prog 126 [fltA x] (.sc (.int .u64 (x : Int))) := ext_of (vals := [.float .f64 x]) (ex := Extern.MathFloatBits.float64bits) Tryz.func126 (by kernel_rfl) (by kernel_rfl) (by kernel_rfl) (by kernel_rfl) (fun w => rfl) rfl
theorem ext_frombits (z : Int) : ExtD Tryz.prog 125 [.sc (.int .u64 z)] (fltA z.toNat) := ext_of (vals := [.int .u64 z]) (ex := Extern.MathFloatBits.float64frombits) Tryz.func125 (by kernel_rfl) (by kernel_rfl) (by kernel_rfl) (by kernel_rfl) (fun w => rfl) rfl
theorem ext_floor {x r : Nat} (h : floorO x = some r) : ExtD Tryz.prog 97 [fltA x] (fltA r) := ext_of (vals := [.float .f64 x]) (ex := Extern.MathFloor.toIntegral "math.archFloor" .down) Tryz.func97 (by kernel_rfl) (by kernel_rfl) (by kernel_rfl) (by kernel_rfl) (fun w => run_floor h w) rfl
end Go.Proofs.YteaimbiojpjneaaGreatDoor
