/- Floats, bits of numbers, functions without a body: rules for printed texts. -/
import Derived.Test.YtlenkbgeomojnaaGreatDoorPJ
import Derived.KernelRfl
set_option linter.unusedVariables false
set_option linter.unusedSimpArgs false
namespace Go.Proofs.YtlenkbgeomojnaaGreatDoor
open Go.RowKit
abbrev fltA (x:Nat):AV:=.sc (.float .f64 x)
def fltE:En Nat where
 size:=1
 enc x:=[fltA x]
 len _:=rfl
 pos:=by decide
 cell _:=rfl
 cln _:=rfl
 nrm _:=rfl
def u64E:En Int where
 size:=1
 enc x:=[.sc (.int .u64 x)]
 len _:=rfl
 pos:=by decide
 cell _:=rfl
 cln _:=rfl
 nrm _:=rfl
theorem fltE.nf:NoFn fltE:=by intro x c hc f l;simp only [fltE,List.mem_singleton] at hc;subst hc;exact (fun h=>by cases h)
theorem u64E.nf:NoFn u64E:=by intro x c hc f l;simp only [u64E,List.mem_singleton] at hc;subst hc;exact (fun h=>by cases h)
def fAddO (a b:Nat):Option Nat:=FloatKind.f64.format.add a b
def fSubO (a b:Nat):Option Nat:=FloatKind.f64.format.sub a b
def fMulO (a b:Nat):Option Nat:=FloatKind.f64.format.mul a b
def fQuoO (a b:Nat):Option Nat:=FloatKind.f64.format.div a b
def fOrd (a b:Nat):Option Ordering:=FloatKind.f64.format.order a b
def fEq (a b:Nat):Bool:=fOrd a b==some .eq
def fNe (a b:Nat):Bool:=fOrd a b !=some .eq
def fLt (a b:Nat):Bool:=fOrd a b==some .lt
def fLe (a b:Nat):Bool:=fOrd a b==some .lt||fOrd a b==some .eq
def fGt (a b:Nat):Bool:=fOrd a b==some .gt
def fGe (a b:Nat):Bool:=fOrd a b==some .gt||fOrd a b==some .eq
def fNeg (a:Nat):Nat:=Op.negFloat .f64 a
def i2f (z:Int):Nat:=FloatKind.f64.nearest z
def f2iO (k:IntKind) (x:Nat):Option Int:=match (FloatKind.f64.decode x).toInt .zero with
 |some n=>if k.min≤n∧n≤k.max then some n else none
 |none=>none
def floorO (x:Nat):Option Nat:=match FloatKind.f64.decode x with
 |.nan _ _=>none
 |d=>some (FloatKind.f64.encode (d.integral .down))
def bAnd (k:IntKind) (x y:Int):Int:=k.wrap (BitVec.ofInt k.bits x &&& BitVec.ofInt k.bits y).toNat
def bOr (k:IntKind) (x y:Int):Int:=k.wrap (BitVec.ofInt k.bits x|||BitVec.ofInt k.bits y).toNat
def bXor (k:IntKind) (x y:Int):Int:=k.wrap (BitVec.ofInt k.bits x ^^^ BitVec.ofInt k.bits y).toNat
def bAndNot (k:IntKind) (x y:Int):Int:=k.wrap (BitVec.ofInt k.bits x &&& ~~~(BitVec.ofInt k.bits y)).toNat
def shrO (k:IntKind) (a b:Int):Option Int:=if b<0 then none else some (a.fdiv (2 ^ min b.toNat k.bits))
def shlO (k:IntKind) (a b:Int):Option Int:=if b<0 then none else some (k.wrap (a*2 ^ min b.toNat k.bits))
section
variable {P:Program} {look:Nat→Option ABlk} {t yt ty n:Nat}
/- functions without a body -/
end
end Go.Proofs.YtlenkbgeomojnaaGreatDoor
