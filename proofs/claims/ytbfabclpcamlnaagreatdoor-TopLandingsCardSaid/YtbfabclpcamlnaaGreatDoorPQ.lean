/- A part. -/
import Derived.Test.YtbfabclpcamlnaaGreatDoorPL
set_option linter.unusedVariables false
namespace Go.Proofs.YtbfabclpcamlnaaGreatDoor
noncomputable abbrev fop (P : Program) (o : BinOp) (ty : TypeId) (a b : Nat) (n : Nat) (R : Nat → Prop) : Prop := Bg (B9 P (.binOp o ty (.tmp 0) (.tmp 1) ty) ty [iP a, iP b] (Al []) n) fun v => exF v R
noncomputable abbrev fcm (P : Program) (o : BinOp) (ty tb : TypeId) (a b : Nat) (n : Nat) (R : Bool → Prop) : Prop := Bg (B9 P (.binOp o ty (.tmp 0) (.tmp 1) ty) tb [iP a, iP b] (Al []) n) fun v => G2 v R
noncomputable abbrev fng (P : Program) (ty : TypeId) (a n : Nat) (R : Nat → Prop) : Prop := Bg (B9 P (.unOp .neg ty (.tmp 0)) ty [iP a] (Al []) n) fun v => exF v R
noncomputable abbrev fld (len sz : Nat) (g : AV) (i : Int) (R : Nat → Prop) : Prop := Bg (Nq len sz g (Aa i)) fun v => Bg (Fe (Al []) v) fun w => exF w R
section
variable {P : Program} {ty tb : TypeId} {a b n : Nat} {look : Nat → Option Bi} {ρ : Type} {t : ρ} {f : Nat → Option ρ} {R : Nat → Prop} {B : Bool → Prop} {G : Prop}
theorem iq {r : Gx} {k : AV → Prop} (v : AV) (h : r = some (v, [])) (h2 : G → k v) : G → Bg r k := imp (Es h) h2
end
end Go.Proofs.YtbfabclpcamlnaaGreatDoor
