/- A part. -/
import Derived.Test.YtmechmjjcgdpdaaGreatDoorX1T
import Derived.Test.YtmechmjjcgdpdaaGreatDoorPS
import Derived.Shelf.SlSortCmp.WholeK
import Derived.Shelf.SlSortCmp.NoneTotal
import Derived.Test.YtmechmjjcgdpdaaGreatDoorPT
import Derived.Sort.EveryDepth
set_option linter.unusedVariables false
set_option maxRecDepth 100000
set_option maxHeartbeats 4000000
namespace Go.Proofs.YtmechmjjcgdpdaaGreatDoor
open Go.Shelf Go.Sort
def dO:Go.Shelf.Ren:=⟨fun|190=>14|125=>56|258=>55|128=>138|129=>139|302=>129|303=>130|304=>131|305=>132|306=>133|307=>134|308=>135|309=>136|310=>137|333=>204|329=>205|330=>206|334=>207|335=>208|336=>169|344=>263|n=>n,fun|31=>29|9=>9|3=>3|46=>155|0=>0|51=>257|53=>259|4=>4|183=>250|182=>249|131=>172|5=>5|218=>327|222=>331|228=>370|229=>167|n=>n,fun|n=>n⟩
theorem mD:Go.Proofs.Lays.n190 Tryz.prog dO where
 mixed:=by kernel_rfl
 f125:=Tryz.func56.trans (congrArg some (by kernel_rfl))
 f128:=Tryz.func138.trans (congrArg some (by kernel_rfl))
 f129:=Tryz.func139.trans (congrArg some (by kernel_rfl))
 f190:=Tryz.func14.trans (congrArg some (by kernel_rfl))
 f258:=Tryz.func55.trans (congrArg some (by kernel_rfl))
 f302:=Tryz.func129.trans (congrArg some (by kernel_rfl))
 f303:=Tryz.func130.trans (congrArg some (by kernel_rfl))
 f304:=Tryz.func131.trans (congrArg some (by kernel_rfl))
 f305:=Tryz.func132.trans (congrArg some (by kernel_rfl))
 f306:=Tryz.func133.trans (congrArg some (by kernel_rfl))
 f307:=Tryz.func134.trans (congrArg some (by kernel_rfl))
 f308:=Tryz.func135.trans (congrArg some (by kernel_rfl))
 f309:=Tryz.func136.trans (congrArg some (by kernel_rfl))
 f310:=Tryz.func137.trans (congrArg some (by kernel_rfl))
 f329:=Tryz.func205.trans (congrArg some (by kernel_rfl))
 f330:=Tryz.func206.trans (congrArg some (by kernel_rfl))
 f333:=Tryz.func204.trans (congrArg some (by kernel_rfl))
 f334:=Tryz.func207.trans (congrArg some (by kernel_rfl))
 f335:=Tryz.func208.trans (congrArg some (by kernel_rfl))
 f336:=Tryz.func169.trans (congrArg some (by kernel_rfl))
 f344:=Tryz.func263.trans (congrArg some (by kernel_rfl))
 t0:=Tryz.underlying0
 a0:=Tryz.isAgg0
 z0:=Tryz.sizeOf0
 v0:=Tryz.zeroValue0
 t3:=Tryz.underlying3
 a3:=Tryz.isAgg3
 z3:=Tryz.sizeOf3
 v3:=Tryz.zeroValue3
 t4:=Tryz.underlying4
 a4:=Tryz.isAgg4
 z4:=Tryz.sizeOf4
 v4:=Tryz.zeroValue4
 t5:=Tryz.underlying5
 a5:=Tryz.isAgg5
 z5:=Tryz.sizeOf5
 v5:=Tryz.zeroValue5
 t9:=Tryz.underlying9
 a9:=Tryz.isAgg9
 z9:=Tryz.sizeOf9
 v9:=Tryz.zeroValue9
 t31:=Tryz.underlying29
 a31:=Tryz.isAgg29
 z31:=Tryz.sizeOf29
 v31:=Tryz.zeroValue29
 t46:=Tryz.underlying155
 a46:=Tryz.isAgg155
 z46:=Tryz.sizeOf155
 v46:=Tryz.zeroValue155
 t51:=Tryz.underlying257
 a51:=Tryz.isAgg257
 z51:=Tryz.sizeOf257
 v51:=Tryz.zeroValue257
 t53:=Tryz.underlying259
 a53:=Tryz.isAgg259
 z53:=Tryz.sizeOf259
 v53:=Tryz.zeroValue259
 t131:=Tryz.underlying172
 a131:=Tryz.isAgg172
 z131:=Tryz.sizeOf172
 v131:=Tryz.zeroValue172
 t182:=Tryz.underlying249
 a182:=Tryz.isAgg249
 z182:=Tryz.sizeOf249
 v182:=Tryz.zeroValue249
 t183:=Tryz.underlying250
 a183:=Tryz.isAgg250
 z183:=Tryz.sizeOf250
 v183:=Tryz.zeroValue250
 t218:=Tryz.underlying327
 a218:=Tryz.isAgg327
 z218:=Tryz.sizeOf327
 v218:=Tryz.zeroValue327
 t222:=Tryz.underlying331
 a222:=Tryz.isAgg331
 z222:=Tryz.sizeOf331
 v222:=Tryz.zeroValue331
 t228:=Tryz.underlying370
 a228:=Tryz.isAgg370
 z228:=Tryz.sizeOf370
 v228:=Tryz.zeroValue370
 t229:=Tryz.underlying167
 a229:=Tryz.isAgg167
 z229:=Tryz.sizeOf167
 v229:=Tryz.zeroValue167
theorem Z9:iL Tryz.prog 14:=fun Bd off cap zs w hH hblk hsz=>calls_of_every_depth fun D=>AnyS.slices_Sort_string_in (Lays.n190.lead mD) D Bd off cap zs w hH hblk hsz
theorem lD:k9 Tryz.prog 14:=fun p cap w=>Any.slices_Sort_string_none mD p cap w
theorem dQ:Dp Tryz.prog 14:=⟨Tryz.f14,_,Tryz.func14,rfl,by kernel_rfl⟩
theorem TP.ok:kJ TP.E:=by
 intro x c hc
 simp only [TP.E,List.mem_cons,List.not_mem_nil,or_false] at hc
 rcases hc with rfl|rfl<;>exact ⟨_,rfl,rfl⟩
def Zb:Go.Shelf.Ren:=⟨fun|6=>339|15=>56|14=>364|28=>138|29=>139|20=>372|21=>373|22=>374|23=>375|24=>376|25=>377|26=>378|27=>379|46=>386|47=>205|48=>206|49=>387|50=>388|57=>390|n=>n,fun|22=>313|24=>51|25=>385|3=>3|39=>155|0=>0|53=>257|55=>259|4=>4|46=>250|45=>249|50=>172|5=>5|9=>9|66=>327|70=>331|76=>370|77=>167|n=>n,fun|n=>n⟩
theorem dG:Go.Proofs.SlLaysF0.n6 Tryz.prog Zb where
 mixed:=by kernel_rfl
 f6:=⟨Tryz.f339.name,by decide,Tryz.func339.trans (congrArg some (by kernel_rfl))⟩
 f14:=⟨Tryz.f364.name,by decide,Tryz.func364.trans (congrArg some (by kernel_rfl))⟩
 f15:=Tryz.func56.trans (congrArg some (by kernel_rfl))
 f20:=⟨Tryz.f372.name,by decide,Tryz.func372.trans (congrArg some (by kernel_rfl))⟩
 f21:=⟨Tryz.f373.name,by decide,Tryz.func373.trans (congrArg some (by kernel_rfl))⟩
 f22:=⟨Tryz.f374.name,by decide,Tryz.func374.trans (congrArg some (by kernel_rfl))⟩
 f23:=⟨Tryz.f375.name,by decide,Tryz.func375.trans (congrArg some (by kernel_rfl))⟩
 f24:=⟨Tryz.f376.name,by decide,Tryz.func376.trans (congrArg some (by kernel_rfl))⟩
 f25:=⟨Tryz.f377.name,by decide,Tryz.func377.trans (congrArg some (by kernel_rfl))⟩
 f26:=⟨Tryz.f378.name,by decide,Tryz.func378.trans (congrArg some (by kernel_rfl))⟩
 f27:=⟨Tryz.f379.name,by decide,Tryz.func379.trans (congrArg some (by kernel_rfl))⟩
 f28:=Tryz.func138.trans (congrArg some (by kernel_rfl))
 f29:=Tryz.func139.trans (congrArg some (by kernel_rfl))
 f46:=⟨Tryz.f386.name,by decide,Tryz.func386.trans (congrArg some (by kernel_rfl))⟩
 f47:=Tryz.func205.trans (congrArg some (by kernel_rfl))
 f48:=Tryz.func206.trans (congrArg some (by kernel_rfl))
 f49:=⟨Tryz.f387.name,by decide,Tryz.func387.trans (congrArg some (by kernel_rfl))⟩
 f50:=⟨Tryz.f388.name,by decide,Tryz.func388.trans (congrArg some (by kernel_rfl))⟩
 f57:=⟨Tryz.f390.name,by decide,Tryz.func390.trans (congrArg some (by kernel_rfl))⟩
 t0:=Tryz.underlying0
 a0:=Tryz.isAgg0
 z0:=Tryz.sizeOf0
 v0:=Tryz.zeroValue0
 t3:=Tryz.underlying3
 a3:=Tryz.isAgg3
 z3:=Tryz.sizeOf3
 v3:=Tryz.zeroValue3
 t4:=Tryz.underlying4
 a4:=Tryz.isAgg4
 z4:=Tryz.sizeOf4
 v4:=Tryz.zeroValue4
 t5:=Tryz.underlying5
 a5:=Tryz.isAgg5
 z5:=Tryz.sizeOf5
 v5:=Tryz.zeroValue5
 t9:=Tryz.underlying9
 a9:=Tryz.isAgg9
 z9:=Tryz.sizeOf9
 v9:=Tryz.zeroValue9
 t22:=Tryz.underlying313
 a22:=Tryz.isAgg313
 z22:=Tryz.sizeOf313
 v22:=Tryz.zeroValue313
 t25:=Tryz.underlying385
 a25:=Tryz.isAgg385
 z25:=Tryz.sizeOf385
 v25:=Tryz.zeroValue385
 t39:=Tryz.underlying155
 a39:=Tryz.isAgg155
 z39:=Tryz.sizeOf155
 v39:=Tryz.zeroValue155
 t45:=Tryz.underlying249
 a45:=Tryz.isAgg249
 z45:=Tryz.sizeOf249
 v45:=Tryz.zeroValue249
 t46:=Tryz.underlying250
 a46:=Tryz.isAgg250
 z46:=Tryz.sizeOf250
 v46:=Tryz.zeroValue250
 t50:=Tryz.underlying172
 a50:=Tryz.isAgg172
 z50:=Tryz.sizeOf172
 v50:=Tryz.zeroValue172
 t53:=Tryz.underlying257
 a53:=Tryz.isAgg257
 z53:=Tryz.sizeOf257
 v53:=Tryz.zeroValue257
 t55:=Tryz.underlying259
 a55:=Tryz.isAgg259
 z55:=Tryz.sizeOf259
 v55:=Tryz.zeroValue259
 t66:=Tryz.underlying327
 a66:=Tryz.isAgg327
 z66:=Tryz.sizeOf327
 v66:=Tryz.zeroValue327
 t70:=Tryz.underlying331
 a70:=Tryz.isAgg331
 z70:=Tryz.sizeOf331
 v70:=Tryz.zeroValue331
 t76:=Tryz.underlying370
 a76:=Tryz.isAgg370
 z76:=Tryz.sizeOf370
 v76:=Tryz.zeroValue370
 t77:=Tryz.underlying167
 a77:=Tryz.isAgg167
 z77:=Tryz.sizeOf167
 v77:=Tryz.zeroValue167
theorem vZ:U5 Tryz.prog 339 2:=fun β _ enc hk h1 cf hO g cb Bd off cap d w eg hcmp hH hblk hsz=>AnyQ.slices_SortFunc_eq dG 2 Tryz.isAgg51 Tryz.sizeOf51 enc hk h1 cf hO g cb Bd off cap d w eg hcmp hH hblk hsz
theorem Ad9:W3 Tryz.prog 339:=fun p cap fv w=>AnyF.slices_SortFunc_none dG p cap fv w
theorem tW:Dp Tryz.prog 339:=⟨Tryz.f339,_,Tryz.func339,rfl,by kernel_rfl⟩
end Go.Proofs.YtmechmjjcgdpdaaGreatDoor
