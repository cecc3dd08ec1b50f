/- Short forms of steps with floats, for printed texts. -/
import Derived.Test.YtlenkbgeomojnaaGreatDoorPL
set_option linter.unusedVariables false
namespace Go.Proofs.YtlenkbgeomojnaaGreatDoor
noncomputable abbrev fop (P:Program) (o:BinOp) (ty:TypeId) (a b:Nat) (n:Nat) (R:Nat→Prop):Prop:=opP (opA P (.binOp o ty (.tmp 0) (.tmp 1) ty) ty [fltA a,fltA b] (mget []) n) fun v=>exF v R
noncomputable abbrev fcm (P:Program) (o:BinOp) (ty tb:TypeId) (a b:Nat) (n:Nat) (R:Bool→Prop):Prop:=opP (opA P (.binOp o ty (.tmp 0) (.tmp 1) ty) tb [fltA a,fltA b] (mget []) n) fun v=>exB v R
noncomputable abbrev fng (P:Program) (ty:TypeId) (a n:Nat) (R:Nat→Prop):Prop:=opP (opA P (.unOp .neg ty (.tmp 0)) ty [fltA a] (mget []) n) fun v=>exF v R
noncomputable abbrev fld (len sz:Nat) (g:AV) (i:Int) (R:Nat→Prop):Prop:=opP (idxA len sz g (intA i)) fun v=>opP (ldS (mget []) v) fun w=>exF w R
section
variable {P:Program} {ty tb:TypeId} {a b n:Nat} {look:Nat→Option ABlk} {ρ:Type} {t:ρ} {f:Nat→Option ρ} {R:Nat→Prop} {B:Bool→Prop} {G:Prop}
theorem iq {r:Res} {k:AV→Prop} (v:AV) (h:r=some (v,[])) (h2:G→k v):G→opP r k:=imp (opP_of h) h2
end
end Go.Proofs.YtlenkbgeomojnaaGreatDoor
