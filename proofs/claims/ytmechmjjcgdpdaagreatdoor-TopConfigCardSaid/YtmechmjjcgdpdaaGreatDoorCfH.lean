/- A part. -/
import Derived.Test.YtmechmjjcgdpdaaGreatDoorX1T
import Derived.Test.YtmechmjjcgdpdaaGreatDoorPX
import Derived.Shelf.Small.Strs
set_option linter.unusedVariables false
set_option linter.unusedSimpArgs false
set_option maxRecDepth 100000
namespace Go.Proofs.YtmechmjjcgdpdaaGreatDoor
open Go.RowKit Go.Shelf
def kC:Go.Shelf.Ren:=⟨fun|106=>123|213=>203|265=>262|n=>n,fun|9=>9|3=>3|n=>n,fun|n=>n⟩
theorem Akp:Go.Proofs.Lays.n106 Tryz.prog kC where
 mixed:=by kernel_rfl
 f106:=Tryz.func123.trans (congrArg some (by kernel_rfl))
 f213:=Tryz.func203.trans (congrArg some (by kernel_rfl))
 f265:=Tryz.func262.trans (congrArg some (by kernel_rfl))
 t3:=Tryz.underlying3
 a3:=Tryz.isAgg3
 z3:=Tryz.sizeOf3
 v3:=Tryz.zeroValue3
 t9:=Tryz.underlying9
 a9:=Tryz.isAgg9
 z9:=Tryz.sizeOf9
 v9:=Tryz.zeroValue9
def spC:FuncId→List AV→Option AV:=fun f args=>match args with
 |[.sc (.string a),.sc (.string b)]=>bif f==123 then some (Aa (Lib.compareBytes a.data.toList b.data.toList)) else none
 |_=>none
end Go.Proofs.YtmechmjjcgdpdaaGreatDoor
