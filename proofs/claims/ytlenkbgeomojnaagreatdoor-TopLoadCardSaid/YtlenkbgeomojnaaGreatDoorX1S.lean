/- The sorts of the program: the library's contracts laid at them. -/
import Derived.Test.YtlenkbgeomojnaaGreatDoorX1T
import Derived.Test.YtlenkbgeomojnaaGreatDoorPS
import Derived.Shelf.SlSortCmp.WholeK
import Derived.Shelf.SlSortCmp.NoneTotal
set_option linter.unusedVariables false
set_option maxRecDepth 100000
set_option maxHeartbeats 4000000
namespace Go.Proofs.YtlenkbgeomojnaaGreatDoor
open Go.Shelf Go.Sort
theorem TP.ok:OkE TP.E:=by
 intro x c hc
 simp only [TP.E,List.mem_cons,List.not_mem_nil,or_false] at hc
 rcases hc with rfl|rfl<;>exact ⟨_,rfl,rfl⟩
def sort337x_ren:Go.Shelf.Ren:=⟨fun|6=>337|15=>126|14=>362|28=>196|29=>197|20=>370|21=>371|22=>372|23=>373|24=>374|25=>375|26=>376|27=>377|46=>383|47=>258|48=>259|49=>384|50=>385|57=>387|n=>n,fun|22=>294|24=>38|25=>385|3=>3|39=>144|0=>0|53=>303|55=>306|4=>4|46=>316|45=>315|50=>149|5=>5|9=>9|66=>367|70=>371|76=>411|77=>258|n=>n,fun|n=>n⟩
theorem sort337x:Go.Proofs.SlLaysF0.n6 Tryz.prog sort337x_ren where
 mixed:=by kernel_rfl
 f6:=⟨Tryz.f337.name,by decide,Tryz.func337.trans (congrArg some (by kernel_rfl))⟩
 f14:=⟨Tryz.f362.name,by decide,Tryz.func362.trans (congrArg some (by kernel_rfl))⟩
 f15:=Tryz.func126.trans (congrArg some (by kernel_rfl))
 f20:=⟨Tryz.f370.name,by decide,Tryz.func370.trans (congrArg some (by kernel_rfl))⟩
 f21:=⟨Tryz.f371.name,by decide,Tryz.func371.trans (congrArg some (by kernel_rfl))⟩
 f22:=⟨Tryz.f372.name,by decide,Tryz.func372.trans (congrArg some (by kernel_rfl))⟩
 f23:=⟨Tryz.f373.name,by decide,Tryz.func373.trans (congrArg some (by kernel_rfl))⟩
 f24:=⟨Tryz.f374.name,by decide,Tryz.func374.trans (congrArg some (by kernel_rfl))⟩
 f25:=⟨Tryz.f375.name,by decide,Tryz.func375.trans (congrArg some (by kernel_rfl))⟩
 f26:=⟨Tryz.f376.name,by decide,Tryz.func376.trans (congrArg some (by kernel_rfl))⟩
 f27:=⟨Tryz.f377.name,by decide,Tryz.func377.trans (congrArg some (by kernel_rfl))⟩
 f28:=Tryz.func196.trans (congrArg some (by kernel_rfl))
 f29:=Tryz.func197.trans (congrArg some (by kernel_rfl))
 f46:=⟨Tryz.f383.name,by decide,Tryz.func383.trans (congrArg some (by kernel_rfl))⟩
 f47:=Tryz.func258.trans (congrArg some (by kernel_rfl))
 f48:=Tryz.func259.trans (congrArg some (by kernel_rfl))
 f49:=⟨Tryz.f384.name,by decide,Tryz.func384.trans (congrArg some (by kernel_rfl))⟩
 f50:=⟨Tryz.f385.name,by decide,Tryz.func385.trans (congrArg some (by kernel_rfl))⟩
 f57:=⟨Tryz.f387.name,by decide,Tryz.func387.trans (congrArg some (by kernel_rfl))⟩
 t0:=Tryz.underlying0
 a0:=Tryz.isAgg0
 z0:=Tryz.sizeOf0
 v0:=Tryz.zeroValue0
 t3:=Tryz.underlying3
 a3:=Tryz.isAgg3
 z3:=Tryz.sizeOf3
 v3:=Tryz.zeroValue3
 t4:=Tryz.underlying4
 a4:=Tryz.isAgg4
 z4:=Tryz.sizeOf4
 v4:=Tryz.zeroValue4
 t5:=Tryz.underlying5
 a5:=Tryz.isAgg5
 z5:=Tryz.sizeOf5
 v5:=Tryz.zeroValue5
 t9:=Tryz.underlying9
 a9:=Tryz.isAgg9
 z9:=Tryz.sizeOf9
 v9:=Tryz.zeroValue9
 t22:=Tryz.underlying294
 a22:=Tryz.isAgg294
 z22:=Tryz.sizeOf294
 v22:=Tryz.zeroValue294
 t25:=Tryz.underlying385
 a25:=Tryz.isAgg385
 z25:=Tryz.sizeOf385
 v25:=Tryz.zeroValue385
 t39:=Tryz.underlying144
 a39:=Tryz.isAgg144
 z39:=Tryz.sizeOf144
 v39:=Tryz.zeroValue144
 t45:=Tryz.underlying315
 a45:=Tryz.isAgg315
 z45:=Tryz.sizeOf315
 v45:=Tryz.zeroValue315
 t46:=Tryz.underlying316
 a46:=Tryz.isAgg316
 z46:=Tryz.sizeOf316
 v46:=Tryz.zeroValue316
 t50:=Tryz.underlying149
 a50:=Tryz.isAgg149
 z50:=Tryz.sizeOf149
 v50:=Tryz.zeroValue149
 t53:=Tryz.underlying303
 a53:=Tryz.isAgg303
 z53:=Tryz.sizeOf303
 v53:=Tryz.zeroValue303
 t55:=Tryz.underlying306
 a55:=Tryz.isAgg306
 z55:=Tryz.sizeOf306
 v55:=Tryz.zeroValue306
 t66:=Tryz.underlying367
 a66:=Tryz.isAgg367
 z66:=Tryz.sizeOf367
 v66:=Tryz.zeroValue367
 t70:=Tryz.underlying371
 a70:=Tryz.isAgg371
 z70:=Tryz.sizeOf371
 v70:=Tryz.zeroValue371
 t76:=Tryz.underlying411
 a76:=Tryz.isAgg411
 z76:=Tryz.sizeOf411
 v76:=Tryz.zeroValue411
 t77:=Tryz.underlying258
 a77:=Tryz.isAgg258
 z77:=Tryz.sizeOf258
 v77:=Tryz.zeroValue258
theorem sorts337:SortsK Tryz.prog 337 2:=fun β _ enc hk h1 cf hO g cb blk off cap d w eg hcmp hH hblk hsz=>AnyQ.slices_SortFunc_eq sort337x 2 Tryz.isAgg38 Tryz.sizeOf38 enc hk h1 cf hO g cb blk off cap d w eg hcmp hH hblk hsz
theorem none337:SortsNone Tryz.prog 337:=fun p cap fv w=>AnyF.slices_SortFunc_none sort337x p cap fv w
theorem plain337:Plainly Tryz.prog 337:=⟨Tryz.f337,_,Tryz.func337,rfl,by kernel_rfl⟩
end Go.Proofs.YtlenkbgeomojnaaGreatDoor
