/- The argument of the sine after its reduction. -/
import Derived.Test.YteaimbiojpjneaaGreatDoorFla
namespace Go.Proofs.YteaimbiojpjneaaGreatDoor
def xO (h : Nat) : Option Nat := (fMulO (i2f (h : Int)) 4614256656552045848).bind fun x1 => fQuoO x1 4656722014701092864
def zO (x y : Nat) : Option Nat := (fMulO y 4605249456957292544).bind fun a => (fSubO x a).bind fun b => (fMulO y 4495793288086814720).bind fun c => (fSubO b c).bind fun d => (fMulO y 4388835458085048688).bind fun e => fSubO d e
def zrO (x : Nat) : Option Nat := (fMulO x 4608412980311869571).bind fun x3 => (f2iO .u64 x3).bind fun j => bif bAnd .u64 j 1 == 1 then (fAddO (i2f j) 4607182418800017408).bind fun y => zO x y else zO x (i2f j)
def zOk (h : Nat) : Bool := match (xO h).bind zrO with
  | some z => Nat.blt z 18446744073709551616 && Nat.ble (z % 9223372036854775808) 4607182418800017408
  | none => false
end Go.Proofs.YteaimbiojpjneaaGreatDoor
