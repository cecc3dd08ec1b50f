/- A part. -/
import Derived.Test.YtmhnnmfcjdnlhaaGreatDoorFla
namespace Go.Proofs.YtmhnnmfcjdnlhaaGreatDoor
def xO (h:Nat):Option Nat:=(A0 (Jn (h:Int)) 4614256656552045848).bind fun x1=>I0 x1 4656722014701092864
def zO (x y:Nat):Option Nat:=(A0 y 4605249456957292544).bind fun a=>(D2 x a).bind fun b=>(A0 y 4495793288086814720).bind fun c=>(D2 b c).bind fun d=>(A0 y 4388835458085048688).bind fun e=>D2 d e
def zrO (x:Nat):Option Nat:=(A0 x 4608412980311869571).bind fun x3=>(Qd .u64 x3).bind fun j=>bif E2 .u64 j 1==1 then (Be (Jn j) 4607182418800017408).bind fun y=>zO x y else zO x (Jn j)
def zOk (h:Nat):Bool:=match (xO h).bind zrO with
 |some z=>Nat.blt z 18446744073709551616 && Nat.ble (z % 9223372036854775808) 4607182418800017408
 |none=>false
end Go.Proofs.YtmhnnmfcjdnlhaaGreatDoor
