/- A part. -/
import Derived.Test.YtmhnnmfcjdnlhaaGreatDoorPL
set_option linter.unusedVariables false
namespace Go.Proofs.YtmhnnmfcjdnlhaaGreatDoor
theorem Lf (x:Nat):Yj Tryz.prog 97 [Ci x] (.sc (.int .u64 (x:Int))):=aU (vals:=[.float .f64 x]) (ex:=Extern.MathFloatBits.float64bits) Tryz.func97 (by kernel_rfl) (by kernel_rfl) (by kernel_rfl) (by kernel_rfl) (fun w=>rfl) rfl
theorem F2 (z:Int):Yj Tryz.prog 96 [.sc (.int .u64 z)] (Ci z.toNat):=aU (vals:=[.int .u64 z]) (ex:=Extern.MathFloatBits.float64frombits) Tryz.func96 (by kernel_rfl) (by kernel_rfl) (by kernel_rfl) (by kernel_rfl) (fun w=>rfl) rfl
theorem gG {x r:Nat} (h:Ou x=some r):Yj Tryz.prog 72 [Ci x] (Ci r):=aU (vals:=[.float .f64 x]) (ex:=Extern.MathFloor.toIntegral "math.archFloor" .down) Tryz.func72 (by kernel_rfl) (by kernel_rfl) (by kernel_rfl) (by kernel_rfl) (fun w=>fK h w) rfl
end Go.Proofs.YtmhnnmfcjdnlhaaGreatDoor
