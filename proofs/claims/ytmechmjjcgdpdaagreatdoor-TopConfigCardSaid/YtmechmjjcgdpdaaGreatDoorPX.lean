/- A part. -/
import Derived.Test.YtmechmjjcgdpdaaGreatDoorPD
set_option linter.unusedVariables false
set_option linter.unusedSimpArgs false
namespace Go.Proofs.YtmechmjjcgdpdaaGreatDoor
open Go.RowKit
def Ahr (P:Program) (K:I5) (sp:FuncId→List AV→Option AV):Nat→Ee
 |0,_,_,_,_=>none
 |k+1,f,args,m,nx=>match sp f args with
  |some v=>some (v,m,nx)
  |none=>match P.funcs[f]? with
   |some fn=>match fn.body with
    |some c=>bif fn.name== "runtime.NumGoroutine" ||Nat.blt fn.ntmps args.length then none else
      match Eb K (Hq P K (Ahr P K sp k) fn.ntmps) k c ⟨Ed args 0,m,nx⟩ with
      |some (.normal,s)=>(D6 P fn s).map (·,s.m,s.nx)
      |some (.ret,s)=>(D6 P fn s).map (·,s.m,s.nx)
      |_=>none
    |none=>none
   |none=>none
section
variable {P:Program} {K:I5} {sp:FuncId→List AV→Option AV}
def Amg (P:Program) (K:I5) (sp:FuncId→List AV→Option AV) (k:Nat) (f:FuncId):Option Bool:=
 match Ahr P K sp k f [] [] 0 with
 |some (.sc (.bool b),_,_)=>some b
 |_=>none
end
end Go.Proofs.YtmechmjjcgdpdaaGreatDoor
