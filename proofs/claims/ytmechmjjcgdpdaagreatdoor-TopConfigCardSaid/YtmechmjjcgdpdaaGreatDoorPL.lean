/- A part. -/
import Derived.Test.YtmechmjjcgdpdaaGreatDoorPJ
import Derived.KernelRfl
set_option linter.unusedVariables false
set_option linter.unusedSimpArgs false
namespace Go.Proofs.YtmechmjjcgdpdaaGreatDoor
open Go.RowKit
abbrev qL (x:Nat):AV:=.sc (.float .f64 x)
def Akj:En Nat where
 size:=1
 enc x:=[qL x]
 len _:=rfl
 pos:=by decide
 cell _:=rfl
 Cs _:=rfl
 Vr _:=rfl
def Aiv:En Int where
 size:=1
 enc x:=[.sc (.int .u64 x)]
 len _:=rfl
 pos:=by decide
 cell _:=rfl
 Cs _:=rfl
 Vr _:=rfl
theorem Akj.nf:Kk Akj:=by intro x c hc f l;simp only [Akj,List.mem_singleton] at hc;subst hc;exact (fun h=>by cases h)
theorem Aiv.nf:Kk Aiv:=by intro x c hc f l;simp only [Aiv,List.mem_singleton] at hc;subst hc;exact (fun h=>by cases h)
def Aqf (a b:Nat):Option Nat:=FloatKind.f64.format.add a b
def Aqd (a b:Nat):Option Nat:=FloatKind.f64.format.sub a b
def Aqp (a b:Nat):Option Nat:=FloatKind.f64.format.mul a b
def Aqc (a b:Nat):Option Nat:=FloatKind.f64.format.div a b
def fP (a b:Nat):Option Ordering:=FloatKind.f64.format.order a b
def fEq (a b:Nat):Bool:=fP a b==some .eq
def fNe (a b:Nat):Bool:=fP a b !=some .eq
def fLt (a b:Nat):Bool:=fP a b==some .lt
def fLe (a b:Nat):Bool:=fP a b==some .lt||fP a b==some .eq
def fGt (a b:Nat):Bool:=fP a b==some .gt
def fGe (a b:Nat):Bool:=fP a b==some .gt||fP a b==some .eq
def Arm (a:Nat):Nat:=Op.negFloat .f64 a
def i2f (z:Int):Nat:=FloatKind.f64.nearest z
def Aq2 (k:IntKind) (x:Nat):Option Int:=match (FloatKind.f64.decode x).toInt .zero with
 |some n=>if k.min≤n∧n≤k.max then some n else none
 |none=>none
def Aoi (x:Nat):Option Nat:=match FloatKind.f64.decode x with
 |.nan _ _=>none
 |d=>some (FloatKind.f64.encode (d.integral .down))
def Aq4 (k:IntKind) (x y:Int):Int:=k.wrap (BitVec.ofInt k.bits x &&& BitVec.ofInt k.bits y).toNat
def bOr (k:IntKind) (x y:Int):Int:=k.wrap (BitVec.ofInt k.bits x|||BitVec.ofInt k.bits y).toNat
def Ari (k:IntKind) (x y:Int):Int:=k.wrap (BitVec.ofInt k.bits x ^^^ BitVec.ofInt k.bits y).toNat
def An7 (k:IntKind) (x y:Int):Int:=k.wrap (BitVec.ofInt k.bits x &&& ~~~(BitVec.ofInt k.bits y)).toNat
def Arn (k:IntKind) (a b:Int):Option Int:=if b<0 then none else some (a.fdiv (2 ^ min b.toNat k.bits))
def Arl (k:IntKind) (a b:Int):Option Int:=if b<0 then none else some (k.wrap (a*2 ^ min b.toNat k.bits))
section
variable {P:Program} {look:Nat→Option Bk} {t yt ty n:Nat}
end
end Go.Proofs.YtmechmjjcgdpdaaGreatDoor
