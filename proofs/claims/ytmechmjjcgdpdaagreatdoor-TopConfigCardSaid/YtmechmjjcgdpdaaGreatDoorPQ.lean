/- A part. -/
import Derived.Test.YtmechmjjcgdpdaaGreatDoorPL
set_option linter.unusedVariables false
namespace Go.Proofs.YtmechmjjcgdpdaaGreatDoor
noncomputable abbrev fop (P:Program) (o:BinOp) (ty:TypeId) (a b:Nat) (n:Nat) (R:Nat→Prop):Prop:=Bg (Cv P (.binOp o ty (.tmp 0) (.tmp 1) ty) ty [qL a,qL b] (Ao []) n) fun v=>exF v R
noncomputable abbrev fcm (P:Program) (o:BinOp) (ty tb:TypeId) (a b:Nat) (n:Nat) (R:Bool→Prop):Prop:=Bg (Cv P (.binOp o ty (.tmp 0) (.tmp 1) ty) tb [qL a,qL b] (Ao []) n) fun v=>Iv v R
noncomputable abbrev fng (P:Program) (ty:TypeId) (a n:Nat) (R:Nat→Prop):Prop:=Bg (Cv P (.unOp .neg ty (.tmp 0)) ty [qL a] (Ao []) n) fun v=>exF v R
noncomputable abbrev fld (len sz:Nat) (g:AV) (i:Int) (R:Nat→Prop):Prop:=Bg (Wf len sz g (Aa i)) fun v=>Bg (Ff (Ao []) v) fun w=>exF w R
section
variable {P:Program} {ty tb:TypeId} {a b n:Nat} {look:Nat→Option Bk} {ρ:Type} {t:ρ} {f:Nat→Option ρ} {R:Nat→Prop} {B:Bool→Prop} {G:Prop}
theorem iq {r:Ht} {k:AV→Prop} (v:AV) (h:r=some (v,[])) (h2:G→k v):G→Bg r k:=imp (Ds h) h2
end
end Go.Proofs.YtmechmjjcgdpdaaGreatDoor
