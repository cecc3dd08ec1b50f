/- A part. -/
import Derived.Test.YtkdodbfnocdkdaaGreatDoorPL
set_option linter.unusedVariables false
namespace Go.Proofs.YtkdodbfnocdkdaaGreatDoor
theorem Ns (x:Nat):bG Tryz.prog 343 [Ck x] (.sc (.int .u64 (x:Int))):=gS (vals:=[.float .f64 x]) (ex:=Extern.MathFloatBits.float64bits) Tryz.func343 (by kernel_rfl) (by kernel_rfl) (by kernel_rfl) (by kernel_rfl) (fun w=>rfl) rfl
theorem Gk (z:Int):bG Tryz.prog 344 [.sc (.int .u64 z)] (Ck z.toNat):=gS (vals:=[.int .u64 z]) (ex:=Extern.MathFloatBits.float64frombits) Tryz.func344 (by kernel_rfl) (by kernel_rfl) (by kernel_rfl) (by kernel_rfl) (fun w=>rfl) rfl
theorem pF {x r:Nat} (h:Rs x=some r):bG Tryz.prog 297 [Ck x] (Ck r):=gS (vals:=[.float .f64 x]) (ex:=Extern.MathFloor.toIntegral "math.archFloor" .down) Tryz.func297 (by kernel_rfl) (by kernel_rfl) (by kernel_rfl) (by kernel_rfl) (fun w=>pG h w) rfl
end Go.Proofs.YtkdodbfnocdkdaaGreatDoor
