/- A part. -/
import Derived.Test.YtmechmjjcgdpdaaGreatDoorX1T
import Derived.Test.YtmechmjjcgdpdaaGreatDoorPJ
import Derived.Test.YtmechmjjcgdpdaaGreatDoorPT
import Derived.Test.YtmechmjjcgdpdaaGreatDoorPL
import Derived.Test.YtmechmjjcgdpdaaGreatDoorCfH
set_option linter.unusedVariables false
set_option linter.unusedSimpArgs false
set_option maxRecDepth 100000
set_option maxHeartbeats 4000000
namespace Go.Proofs.YtmechmjjcgdpdaaGreatDoor
abbrev aM:=(Bool)
def I1 (n:Nat) (d:Bool) (c:List UInt8) (Jl a:Int):Option ((Int)⊕aM):=
bif (decide (a<Jl)) then (
(Cd c a).bind fun b=>
bif (decide ((b.toNat:Int)≥(65))) then (
bif (decide ((b.toNat:Int)≤(90))) then (
some (.inl (IntKind.wrap .i64 (a+(1))))) else (
bif (decide (a>(0))) then (
bif (decide ((b.toNat:Int)≥(48))) then (
bif (!(decide ((b.toNat:Int)≤(57)))) then (
some (.inr (false))) else (
some (.inl (IntKind.wrap .i64 (a+(1)))))) else (
some (.inr (false)))) else (
some (.inr (false))))) else (
bif (decide (a>(0))) then (
bif (decide ((b.toNat:Int)≥(48))) then (
bif (!(decide ((b.toNat:Int)≤(57)))) then (
some (.inr (false))) else (
some (.inl (IntKind.wrap .i64 (a+(1)))))) else (
some (.inr (false)))) else (
some (.inr (false))))) else (
some (.inr (true)))
def j7 (n:Nat) (a:ByteArray):Option aM:=
bif (decide ((a.size:Int)<(1))) then (
some (false)) else (
bif (decide ((a.size:Int)>(8))) then (
some (false)) else (
(Gl a.size 1).bind fun b=>
A7 (fun y:Int=>I1 n false (a.data.toList) ((a.data.toList).length:Int) y) n (0)))
abbrev Y2:=(Int)
def J4 (n:Nat) (b:List ByteArray) (c:ByteArray) (e c7 a:Int):Option ((Int)⊕Y2):=
bif (decide (a<c7)) then (
(Cd b a).bind fun d=>
bif ((c).toList==(d).toList) then (
some (.inr (a))) else (
some (.inl (IntKind.wrap .i64 (a+(1)))))) else (
some (.inr (-1)))
def g11 (n:Nat) (a:List ByteArray) (b:ByteArray):Option Y2:=
A7 (fun y:Int=>J4 n a b (0) (a.length:Int) y) n (0)
abbrev Ac5:=(Bool)
def g44 (n:Nat) (a:List ByteArray) (b:ByteArray):Option Ac5:=
(g11 n a b).bind fun c=>
some (decide (c≥(0)))
abbrev Qs:=(Int)
def D2 (n:Nat) (h:List Ab) (i Hu d:Int) (Nk:List ByteArray) (Tj:Int) (j:ByteArray) (c:Int) (a:List ByteArray):Option ((Int×List ByteArray)⊕((Int×List ByteArray)⊕Qs)):=
bif (decide (c<Tj)) then (
(Cd Nk c).bind fun b=>
(j7 n b).bind fun e=>
bif (!e) then (
some (.inr (.inr (3)))) else (
(g44 n a b).bind fun f=>
bif f then (
some (.inr (.inr (7)))) else (
bif (decide (c>(0))) then (
(Cd Nk (IntKind.wrap .i64 (c-(1)))).bind fun g=>
bif (Op.bytesLess (b).toList (g).toList) then (
some (.inr (.inr (7)))) else (
bif ((a.length:Int)==(12)) then (
some (.inr (.inr (2)))) else (
(Gl (a.length+([b]:List ByteArray).length) 16).bind fun k=>
some (.inl ((IntKind.wrap .i64 (c+(1))),(a++([b]:List ByteArray))))))) else (
bif ((a.length:Int)==(12)) then (
some (.inr (.inr (2)))) else (
(Gl (a.length+([b]:List ByteArray).length) 16).bind fun l=>
some (.inl ((IntKind.wrap .i64 (c+(1))),(a++([b]:List ByteArray))))))))) else (
some (.inr (.inl ((IntKind.wrap .i64 (d+(1))),a))))
def I9 (n:Nat) (c:List Ab) (d Hu b:Int) (e:List ByteArray):Option ((Int×List ByteArray)⊕Qs):=
bif (decide (b<Hu)) then (
(Cd c b).bind fun a=>
(j7 n a.Position).bind fun g=>
bif (!g) then (
some (.inr (3))) else (
bif (decide (b>(0))) then (
(Cd c (IntKind.wrap .i64 (b-(1)))).bind fun f=>
bif (Op.bytesLess (a.Position).toList (f.Position).toList||(a.Position).toList==(f.Position).toList) then (
some (.inr (7))) else (
bif ((a.Ak.length:Int)==(0)) then (
some (.inr (8))) else (
A7 (fun y:Int×List ByteArray=>D2 n c d Hu b a.Ak (a.Ak.length:Int) a.Position y.1 y.2) n ((0),e)))) else (
bif ((a.Ak.length:Int)==(0)) then (
some (.inr (8))) else (
A7 (fun y:Int×List ByteArray=>D2 n c d Hu b a.Ak (a.Ak.length:Int) a.Position y.1 y.2) n ((0),e))))) else (
some (.inr (0)))
def o7 (n:Nat) (a:List Ab):Option Qs:=
bif (decide ((a.length:Int)>(12))) then (
some (2)) else (
A7 (fun y:Int×List ByteArray=>I9 n a (0) (a.length:Int) y.1 y.2) n ((0),[]))
abbrev n9:=(Bool)
def wK (n:Nat) (a:Ab) (b:ByteArray):Option n9:=
some ((a.Position).toList==(b).toList)
abbrev G3:=(Int)
def Lr (n:Nat) (b:List Ab) (c:ByteArray) (f c7 a:Int):Option ((Int)⊕G3):=
bif (decide (a<c7)) then (
(Cd b a).bind fun d=>
(wK n d c).bind fun e=>
bif e then (
some (.inr (a))) else (
some (.inl (IntKind.wrap .i64 (a+(1)))))) else (
some (.inr (-1)))
def pH (n:Nat) (a:List Ab) (b:ByteArray):Option G3:=
A7 (fun y:Int=>Lr n a b (0) (a.length:Int) y) n (0)
abbrev Acm:=(Int)
def g47 (n:Nat) (a:List Ab) (b:ByteArray):Option Acm:=
(pH n a b).bind fun c=>
some (c)
abbrev Zq:=((List ByteArray)×Int)
def Nq (n:Nat) (c3:Int) (d:List Ab) (e b:Int) (a:List ByteArray):Option ((Int×List ByteArray)⊕Zq):=
bif (decide (b<e)) then (
(Cd d b).bind fun c=>
(neO c.Ak).bind fun f=>
(Gl (a.length+c.Ak.length) 16).bind fun g=>
some (.inl ((IntKind.wrap .i64 (b+(1))),(a++c.Ak)))) else (
(cQ a).bind fun h=>
some (.inr ((Dr a),(0))))
def g13 (n:Nat) (a:List Ab):Option Zq:=
(o7 n a).bind fun b=>
bif (b !=(0)) then (
some ([],b)) else (
A7 (fun y:Int×List ByteArray=>Nq n (0) a (a.length:Int) y.1 y.2) n ((0),[]))
abbrev mK:=(Int)
def Adp (n:Nat) (a:H6):Option mK:=
bif (decide (a.C6<(0))) then (
some (4)) else (
bif (decide (a.C6>(1000000))) then (
some (4)) else (
bif (decide (a.Cp<(0))) then (
some (4)) else (
bif (decide (a.Cp>(60000))) then (
some (4)) else (
some (0)))))
abbrev Ag1:=(Int)
def iO (n:Nat) (a:TP):Option Ag1:=
bif (decide (a.X<(-1000000))) then (
some (4)) else (
bif (decide (a.X>(1000000))) then (
some (4)) else (
bif (decide (a.Y<(-1000000))) then (
some (4)) else (
bif (decide (a.Y>(1000000))) then (
some (4)) else (
some (0)))))
abbrev aS:=(Int)
def Nu (n:Nat) (c:List Ad) (g Jl b:Int):Option ((Int)⊕aS):=
bif (decide (b<Jl)) then (
(Cd c b).bind fun a=>
bif (decide (a.Am<(0))) then (
some (.inr (12))) else (
bif (decide (a.Am>(200000))) then (
some (.inr (12))) else (
bif (decide (b>(0))) then (
(Cd c (IntKind.wrap .i64 (b-(1)))).bind fun f=>
bif (decide (a.Am≤f.Am)) then (
some (.inr (12))) else (
(iO n (⟨a.A5,a.A6⟩:TP)).bind fun d=>
bif (d !=(0)) then (
some (.inr (d))) else (
bif (decide (a.Ar<(0))) then (
some (.inr (4))) else (
bif (decide (a.Ar>(60000))) then (
some (.inr (4))) else (
bif (decide (a.Bl<(0))) then (
some (.inr (4))) else (
bif (decide (a.Bl>(1000000))) then (
some (.inr (4))) else (
bif (decide (a.Co<(0))) then (
some (.inr (4))) else (
bif (decide (a.Co>(60000))) then (
some (.inr (4))) else (
some (.inl (IntKind.wrap .i64 (b+(1))))))))))))) else (
(iO n (⟨a.A5,a.A6⟩:TP)).bind fun e=>
bif (e !=(0)) then (
some (.inr (e))) else (
bif (decide (a.Ar<(0))) then (
some (.inr (4))) else (
bif (decide (a.Ar>(60000))) then (
some (.inr (4))) else (
bif (decide (a.Bl<(0))) then (
some (.inr (4))) else (
bif (decide (a.Bl>(1000000))) then (
some (.inr (4))) else (
bif (decide (a.Co<(0))) then (
some (.inr (4))) else (
bif (decide (a.Co>(60000))) then (
some (.inr (4))) else (
some (.inl (IntKind.wrap .i64 (b+(1))))))))))))))) else (
some (.inr (0)))
def eA (n:Nat) (a:List Ad):Option aS:=
bif (decide ((a.length:Int)>(64))) then (
some (2)) else (
bif ((a.length:Int)==(0)) then (
some (3)) else (
A7 (fun y:Int=>Nu n a (0) (a.length:Int) y) n (0)))
abbrev Qm:=(Int)
def U0 (n:Nat) (e:Int) (c:List (List Ad)) (Jl a:Int):Option ((Int)⊕Qm):=
bif (decide (a<Jl)) then (
(Cd c a).bind fun d=>
(eA n d).bind fun b=>
bif (b !=(0)) then (
some (.inr (b))) else (
some (.inl (IntKind.wrap .i64 (a+(1)))))) else (
some (.inr (0)))
def Ab1 (n:Nat) (c:H6) (a:List (List Ad)):Option Qm:=
(Adp n c).bind fun b=>
bif (b !=(0)) then (
some (b)) else (
A7 (fun y:Int=>U0 n (0) a (a.length:Int) y) n (0))
abbrev lU:=(Int×Int)
def Acd (n:Nat) (a b:List Ad):Option lU:=
(Cd a (0)).bind fun c=>
(Cd b (0)).bind fun d=>
(Cd a (IntKind.wrap .i64 ((a.length:Int)-(1)))).bind fun e=>
(Cd b (IntKind.wrap .i64 ((b.length:Int)-(1)))).bind fun f=>
some ((if d.Am>c.Am then d.Am else c.Am),(if f.Am<e.Am then f.Am else e.Am))
abbrev Afi:=(Int×Int)
def g58 (n:Nat) (a:List Ad):Option Afi:=
(Cd a (0)).bind fun b=>
(Cd a (IntKind.wrap .i64 ((a.length:Int)-(1)))).bind fun c=>
some (b.Am,c.Am)
abbrev mV:=(Int)
def gO (n:Nat) (a:Ad) (b:Int):Option mV:=
some (IntKind.wrap .i64 (a.Am-b))
abbrev Qr:=(Int×Bool)
def Og (n:Nat) (c:List Ad) (d j:Int) (c7:Bool) (e a b:Int):Option ((Int×Int)⊕Qr):=
bif (decide (a<b)) then (
(Cd c (IntKind.wrap .i64 (Int.fdiv (IntKind.wrap .u64 (IntKind.wrap .i64 (a+b))) 2))).bind fun f=>
(gO n f d).bind fun g=>
bif (decide (g<(0))) then (
some (.inl ((IntKind.wrap .i64 ((IntKind.wrap .i64 (Int.fdiv (IntKind.wrap .u64 (IntKind.wrap .i64 (a+b))) 2))+(1))),b))) else (
some (.inl (a,(IntKind.wrap .i64 (Int.fdiv (IntKind.wrap .u64 (IntKind.wrap .i64 (a+b))) 2)))))) else (
bif (decide (a<e)) then (
(Cd c a).bind fun h=>
(gO n h d).bind fun i=>
some (.inr (a,(i==(0))))) else (
some (.inr (a,false))))
def rE (n:Nat) (a:List Ad) (b:Int):Option Qr:=
A7 (fun y:Int×Int=>Og n a b (0) false (a.length:Int) y.1 y.2) n ((0),(a.length:Int))
abbrev mN:=(Int×Int)
def aU (n:Nat) (b a:Int):Option mN:=
bif (a==(0)) then (
some ((0),(10))) else (
bif (b==(-9223372036854775808)) then (
bif (a==(-1)) then (
some ((0),(2))) else (
(sJ b a).bind fun c=>
(Nh b a).bind fun e=>
bif (e !=(0)) then (
bif (!((decide (b<(0)))==(decide (a<(0))))) then (
some ((IntKind.wrap .i64 ((IntKind.wrap .i64 c)-(1))),(0))) else (
some ((IntKind.wrap .i64 c),(0)))) else (
some ((IntKind.wrap .i64 c),(0))))) else (
(sJ b a).bind fun d=>
(Nh b a).bind fun f=>
bif (f !=(0)) then (
bif (!((decide (b<(0)))==(decide (a<(0))))) then (
some ((IntKind.wrap .i64 ((IntKind.wrap .i64 d)-(1))),(0))) else (
some ((IntKind.wrap .i64 d),(0)))) else (
some ((IntKind.wrap .i64 d),(0)))))
abbrev oM:=(TP×Int)
def o9 (n:Nat) (a c:TP) (d b:Int):Option oM:=
bif (decide (b≤(0))) then (
some ((⟨0,0⟩:TP),(10))) else (
bif (decide (b>(200000))) then (
some ((⟨0,0⟩:TP),(4))) else (
bif (decide (d<(0))) then (
some ((⟨0,0⟩:TP),(4))) else (
bif (decide (d>b)) then (
some ((⟨0,0⟩:TP),(4))) else (
(iO n a).bind fun e=>
bif (e !=(0)) then (
(iO n a).bind fun f=>
some ((⟨0,0⟩:TP),f)) else (
(iO n c).bind fun g=>
bif (g !=(0)) then (
(iO n c).bind fun h=>
some ((⟨0,0⟩:TP),h)) else (
(aU n (IntKind.wrap .i64 ((IntKind.wrap .i64 (c.X-a.X))*d)) b).bind fun i=>
(aU n (IntKind.wrap .i64 ((IntKind.wrap .i64 (c.Y-a.Y))*d)) b).bind fun j=>
some ((⟨IntKind.wrap .i64 (a.X+i.1),IntKind.wrap .i64 (a.Y+j.1)⟩:TP),(0))))))))
abbrev mE:=(Int×Int)
def iH (n:Nat) (b c:Int):Option mE:=
(aU n b c).bind fun a=>
bif (a.2==(0)) then (
(Nh b c).bind fun d=>
bif (d !=(0)) then (
some ((IntKind.wrap .i64 (a.1+(1))),a.2)) else (
some (a.1,a.2))) else (
some (a.1,a.2))
abbrev Ac7:=(Ad)
def g59 (n:Nat) (d:List Ad) (c:Int):Option Ac7:=
(rE n d c).bind fun e=>
bif e.2 then (
(Cd d e.1).bind fun g=>
some (g)) else (
(Cd d (IntKind.wrap .i64 (e.1-(1)))).bind fun a=>
(Cd d e.1).bind fun b=>
(o9 n (⟨a.A5,a.A6⟩:TP) (⟨b.A5,b.A6⟩:TP) (IntKind.wrap .i64 (c-a.Am)) (IntKind.wrap .i64 (b.Am-a.Am))).bind fun f=>
(aU n (IntKind.wrap .i64 ((IntKind.wrap .i64 (b.Ar-a.Ar))*(IntKind.wrap .i64 (c-a.Am)))) (IntKind.wrap .i64 (b.Am-a.Am))).bind fun h=>
(iH n (IntKind.wrap .i64 ((IntKind.wrap .i64 (b.Bl-a.Bl))*(IntKind.wrap .i64 (c-a.Am)))) (IntKind.wrap .i64 (b.Am-a.Am))).bind fun i=>
(iH n (IntKind.wrap .i64 ((IntKind.wrap .i64 (b.Co-a.Co))*(IntKind.wrap .i64 (c-a.Am)))) (IntKind.wrap .i64 (b.Am-a.Am))).bind fun j=>
some (⟨c,f.1.X,f.1.Y,IntKind.wrap .i64 (a.Ar+h.1),IntKind.wrap .i64 (a.Bl+i.1),IntKind.wrap .i64 (a.Co+j.1)⟩:Ad))
abbrev Ae6:=(Ad×Int)
def g15 (n:Nat) (a:List Ad) (b:Int):Option Ae6:=
(eA n a).bind fun c=>
bif (c !=(0)) then (
some ((⟨0,0,0,0,0,0⟩:Ad),c)) else (
(g58 n a).bind fun d=>
bif (decide (b<d.1)) then (
some ((⟨0,0,0,0,0,0⟩:Ad),(12))) else (
bif (decide (b>d.2)) then (
some ((⟨0,0,0,0,0,0⟩:Ad),(12))) else (
(g59 n a b).bind fun e=>
some (e,(0)))))
abbrev lP:=(TP)
def Z2 (n:Nat) (a b:TP):Option lP:=
some (⟨IntKind.wrap .i64 (a.X-b.X),IntKind.wrap .i64 (a.Y-b.Y)⟩:TP)
abbrev nU:=(Int)
def iQ (n:Nat) (a b:TP):Option nU:=
some (IntKind.wrap .i64 ((IntKind.wrap .i64 (a.X*b.X))+(IntKind.wrap .i64 (a.Y*b.Y))))
abbrev nS:=(Int)
def dM (n:Nat) (b c:TP):Option nS:=
(Z2 n b c).bind fun a=>
(iQ n a a).bind fun d=>
some (d)
abbrev O8:=(Int)
def Vp (n:Nat) (c d a b:Int):Option ((Int×Int)⊕O8):=
bif (decide (a<b)) then (
bif (decide ((IntKind.wrap .i64 ((IntKind.wrap .i64 (a+(IntKind.wrap .i64 (Int.tdiv (IntKind.wrap .i64 ((IntKind.wrap .i64 (b-a))+(1))) (2)))))*(IntKind.wrap .i64 (a+(IntKind.wrap .i64 (Int.tdiv (IntKind.wrap .i64 ((IntKind.wrap .i64 (b-a))+(1))) (2)))))))≤c)) then (
some (.inl ((IntKind.wrap .i64 (a+(IntKind.wrap .i64 (Int.tdiv (IntKind.wrap .i64 ((IntKind.wrap .i64 (b-a))+(1))) (2))))),b))) else (
some (.inl (a,(IntKind.wrap .i64 ((IntKind.wrap .i64 (a+(IntKind.wrap .i64 (Int.tdiv (IntKind.wrap .i64 ((IntKind.wrap .i64 (b-a))+(1))) (2)))))-(1))))))) else (
some (.inr (a)))
def Agn (n:Nat) (a:Int):Option O8:=
bif (decide (a≤(0))) then (
some (0)) else (
A7 (fun y:Int×Int=>Vp n a (0) y.1 y.2) n ((0),(3037000499)))
abbrev mU:=(Int×Int)
def Aeh (n:Nat) (c d:TP):Option mU:=
(dM n c d).bind fun b=>
(Agn n b).bind fun a=>
bif (decide ((IntKind.wrap .i64 (a*a))<b)) then (
some (a,(IntKind.wrap .i64 (a+(1))))) else (
some (a,a))
abbrev kN:=(Bool)
def Afw (n:Nat) (a b:Ad) (c:H6):Option kN:=
(Aeh n (⟨a.A5,a.A6⟩:TP) (⟨b.A5,b.A6⟩:TP)).bind fun d=>
bif (decide ((IntKind.wrap .i64 ((IntKind.wrap .i64 (d.1-a.Bl))-b.Bl))≥c.C6)) then (
some (true)) else (
some (decide ((IntKind.wrap .i64 ((IntKind.wrap .i64 ((if (IntKind.wrap .i64 (b.Ar-a.Ar))>(IntKind.wrap .i64 (a.Ar-b.Ar)) then (IntKind.wrap .i64 (b.Ar-a.Ar)) else (IntKind.wrap .i64 (a.Ar-b.Ar)))-a.Co))-b.Co))≥c.Cp)))
abbrev Qw:=((List Br))
def Uw (n:Nat) (c d:List Ad) (e f g a:Int) (b:List Br):Option ((Int×List Br)⊕Qw):=
bif (decide (a≤e)) then (
(g15 n c a).bind fun h=>
(g15 n d a).bind fun i=>
(Afw n h.1 i.1 (⟨f,g⟩:H6)).bind fun j=>
bif j then (
some (.inl ((IntKind.wrap .i64 (a+(1))),b))) else (
bif (decide ((b.length:Int)>(0))) then (
(Cd b (IntKind.wrap .i64 ((b.length:Int)-(1)))).bind fun k=>
bif (k.To==a) then (
(Cd b (IntKind.wrap .i64 ((b.length:Int)-(1)))).bind fun l=>
some (.inl ((IntKind.wrap .i64 (a+(1))),(b.set (((IntKind.wrap .i64 ((b.length:Int)-(1))):Int).toNat) (⟨l.bC,IntKind.wrap .i64 (a+(1))⟩:Br))))) else (
(Gl (b.length+([(⟨a,IntKind.wrap .i64 (a+(1))⟩:Br)]:List Br).length) 16).bind fun m=>
some (.inl ((IntKind.wrap .i64 (a+(1))),(b++([(⟨a,IntKind.wrap .i64 (a+(1))⟩:Br)]:List Br)))))) else (
(Gl (b.length+([(⟨a,IntKind.wrap .i64 (a+(1))⟩:Br)]:List Br).length) 16).bind fun o=>
some (.inl ((IntKind.wrap .i64 (a+(1))),(b++([(⟨a,IntKind.wrap .i64 (a+(1))⟩:Br)]:List Br))))))) else (
some (.inr (b)))
def Abo (n:Nat) (a b:List Ad) (c:H6):Option Qw:=
(Acd n a b).bind fun d=>
A7 (fun y:Int×List Br=>Uw n a b d.2 c.C6 c.Cp y.1 y.2) n (d.1,[])
abbrev Aer:=((List Br)×Int)
def g83 (n:Nat) (a b:List Ad) (c:H6):Option Aer:=
(Ab1 n c ([a,b]:List (List Ad))).bind fun d=>
bif (d !=(0)) then (
some ([],d)) else (
(Abo n a b c).bind fun e=>
some (e,(0)))
abbrev Afc:=(Int×Int)
def g28 (n:Nat) (b c:List Ad) (d:H6):Option Afc:=
(g83 n b c d).bind fun a=>
bif (a.2 !=(0)) then (
some ((0),a.2)) else (
bif ((a.1.length:Int)==(0)) then (
some ((0),(8))) else (
(Cd a.1 (0)).bind fun e=>
some (e.bC,(0))))
abbrev G2:=(Int)
def Pe (n:Nat) (h Bm i j k l m o p q r s t u v w x c d e f g a:Int):Option ((Int)⊕((Int)⊕G2)):=
bif (decide (a<(4))) then (
(Cd ([d,e,f,g]:List Int) a).bind fun b=>
bif (decide (b<(30))) then (
some (.inr (.inr (4)))) else (
bif (decide (b>(600))) then (
some (.inr (.inr (4)))) else (
some (.inl (IntKind.wrap .i64 (a+(1))))))) else (
some (.inr (.inl (IntKind.wrap .i64 (c+(1))))))
def Kn (n:Nat) (y u d Bm e f g h i j k l m o p q r s t u32:Int):Option ((Int)⊕((Int)⊕((Int)⊕G2))):=
bif (decide (u32<(4))) then (
(Cd ([(⟨Bm,e,f,g⟩:De),(⟨h,i,j,k⟩:De),(⟨l,m,o,p⟩:De),(⟨q,r,s,t⟩:De)]:List De) u).bind fun a=>
(Cd ([a.c0,a.c1,a.c2,a.c3]:List Int) u32).bind fun v=>
(Cd ([(⟨Bm,e,f,g⟩:De),(⟨h,i,j,k⟩:De),(⟨l,m,o,p⟩:De),(⟨q,r,s,t⟩:De)]:List De) u).bind fun b=>
(Cd ([b.c0,b.c1,b.c2,b.c3]:List Int) d).bind fun w=>
(Cd ([(⟨Bm,e,f,g⟩:De),(⟨h,i,j,k⟩:De),(⟨l,m,o,p⟩:De),(⟨q,r,s,t⟩:De)]:List De) d).bind fun c=>
(Cd ([c.c0,c.c1,c.c2,c.c3]:List Int) u32).bind fun x=>
bif (decide (v>(IntKind.wrap .i64 (w+x)))) then (
some (.inr (.inr (.inr (3))))) else (
some (.inl (IntKind.wrap .i64 (u32+(1)))))) else (
some (.inr (.inl (IntKind.wrap .i64 (d+(1))))))
def Pn (n:Nat) (c a Bm d e f g h i j k l m o p q r s b:Int):Option ((Int)⊕((Int)⊕G2)):=
bif (decide (b<(4))) then (
A7 (fun y:Int=>Kn n c a b Bm d e f g h i j k l m o p q r s y) n (0)) else (
some (.inr (.inl (IntKind.wrap .i64 (a+(1))))))
def cP (n:Nat) (b Bm c d e f g h i j k l m o p q r a:Int):Option ((Int)⊕G2):=
bif (decide (a<(4))) then (
A7 (fun y:Int=>Pn n b a Bm c d e f g h i j k l m o p q r y) n (0)) else (
some (.inr (0)))
def fY (n:Nat) (s Bm b c d e f g h i j k l m o p q r:Int):Option ((Int)⊕G2):=
bif (decide (r<(4))) then (
(Cd ([(⟨Bm,b,c,d⟩:De),(⟨e,f,g,h⟩:De),(⟨i,j,k,l⟩:De),(⟨m,o,p,q⟩:De)]:List De) r).bind fun a=>
A7 (fun y:Int=>Pe n s Bm b c d e f g h i j k l m o p q r a.c0 a.c1 a.c2 a.c3 y) n (0)) else (
((A7 (fun y:Int=>cP n s Bm b c d e f g h i j k l m o p q y) n (0)).map Sum.inr))
def g95 (n:Nat) (a:E6):Option G2:=
A7 (fun y:Int=>fY n (0) a.jA a.jK a.jV a.gQ a.kB a.kI a.jL a.jR a.gK a.jT a.jU a.iW a.Tb a.Tc a.Pr a.Ti y) n (0)
abbrev nV:=(TP)
def N9 (n:Nat) (a:List TP) (b:Int):Option nV:=
(Nh (IntKind.wrap .i64 (b+(1))) (a.length:Int)).bind fun c=>
(Cd a c).bind fun d=>
some (d)
abbrev oB:=(Int)
def sI (n:Nat) (a b:TP):Option oB:=
some (IntKind.wrap .i64 ((IntKind.wrap .i64 (a.X*b.Y))-(IntKind.wrap .i64 (a.Y*b.X))))
abbrev kS:=(Int)
def R6 (n:Nat) (a c d:TP):Option kS:=
(Z2 n c a).bind fun e=>
(Z2 n d a).bind fun f=>
(sI n e f).bind fun b=>
bif (decide (b>(0))) then (
some (1)) else (
bif (decide (b<(0))) then (
some (-1)) else (
some (0)))
abbrev mA:=(Bool)
def kF (n:Nat) (a b c:TP):Option mA:=
bif (decide ((if b.X<a.X then b.X else a.X)≤c.X)) then (
bif (decide (c.X≤(if b.X>a.X then b.X else a.X))) then (
bif (decide ((if b.Y<a.Y then b.Y else a.Y)≤c.Y)) then (
some (decide (c.Y≤(if b.Y>a.Y then b.Y else a.Y)))) else (
some (false))) else (
some (false))) else (
some (false))
abbrev lS:=(Bool)
def Py (n:Nat) (a b c:TP):Option lS:=
(R6 n a b c).bind fun d=>
bif (d==(0)) then (
(kF n a b c).bind fun e=>
some (e)) else (
some (false))
abbrev Pf:=(Int)
def Ja (n:Nat) (g:List TP) (j Em h e b a:Int):Option ((Int×Int)⊕Pf):=
bif (decide (a<Em)) then (
(Cd g a).bind fun c=>
(N9 n g a).bind fun d=>
(Py n c d (⟨h,e⟩:TP)).bind fun i=>
bif i then (
some (.inr (0))) else (
bif (!((decide (c.Y>e))==(decide (d.Y>e)))) then (
(R6 n c d (⟨h,e⟩:TP)).bind fun f=>
bif (decide (d.Y>c.Y)) then (
bif (decide (f>(0))) then (
some (.inl ((IntKind.wrap .i64 (0-b)),(IntKind.wrap .i64 (a+(1)))))) else (
bif (decide (d.Y<c.Y)) then (
bif (decide (f<(0))) then (
some (.inl ((IntKind.wrap .i64 (0-b)),(IntKind.wrap .i64 (a+(1)))))) else (
some (.inl (b,(IntKind.wrap .i64 (a+(1))))))) else (
some (.inl (b,(IntKind.wrap .i64 (a+(1)))))))) else (
bif (decide (d.Y<c.Y)) then (
bif (decide (f<(0))) then (
some (.inl ((IntKind.wrap .i64 (0-b)),(IntKind.wrap .i64 (a+(1)))))) else (
some (.inl (b,(IntKind.wrap .i64 (a+(1))))))) else (
some (.inl (b,(IntKind.wrap .i64 (a+(1)))))))) else (
some (.inl (b,(IntKind.wrap .i64 (a+(1)))))))) else (
some (.inr (b)))
def j0 (n:Nat) (a:List TP) (b:TP):Option Pf:=
A7 (fun y:Int×Int=>Ja n a (0) (a.length:Int) b.X b.Y y.1 y.2) n ((-1),(0))
abbrev lC:=(Bool)
def uV (n:Nat) (a:Al) (c:TP) (b:Int):Option lC:=
bif (decide (b≥a.Hw)) then (
bif (decide (b<a.D4)) then (
(j0 n a.D0 c).bind fun d=>
some (decide (d≥(0)))) else (
some (false))) else (
some (false))
abbrev lW:=(Bool)
def sQ (n:Nat) (a:Al) (b c d:Int):Option lW:=
(uV n a (⟨b,c⟩:TP) d).bind fun e=>
some (e)
abbrev P6:=(Int)
def J1 (n:Nat) (b:List Al) (c d e h c7 a:Int):Option ((Int)⊕P6):=
bif (decide (a<c7)) then (
(Cd b a).bind fun f=>
(sQ n f c d e).bind fun g=>
bif g then (
some (.inr (a))) else (
some (.inl (IntKind.wrap .i64 (a+(1)))))) else (
some (.inr (-1)))
def vE (n:Nat) (a:List Al) (b c d:Int):Option P6:=
A7 (fun y:Int=>J1 n a b c d (0) (a.length:Int) y) n (0)
abbrev mJ:=(Bool)
def qX (n:Nat) (a:List Al) (b c d:Int):Option mJ:=
(vE n a b c d).bind fun e=>
some (decide (e≥(0)))
abbrev oP:=(Bool)
def iA (n:Nat) (a:Au) (b c d:Int):Option oP:=
(qX n a.Room b c d).bind fun e=>
some (e)
abbrev G5:=(Int)
def Jv (n:Nat) (b:List Au) (c d e h c7 a:Int):Option ((Int)⊕G5):=
bif (decide (a<c7)) then (
(Cd b a).bind fun f=>
(iA n f c d e).bind fun g=>
bif g then (
some (.inr (a))) else (
some (.inl (IntKind.wrap .i64 (a+(1)))))) else (
some (.inr (-1)))
def zJ (n:Nat) (a:List Au) (b c d:Int):Option G5:=
A7 (fun y:Int=>Jv n a b c d (0) (a.length:Int) y) n (0)
abbrev mF:=(Int)
def sD (n:Nat) (b:List Au) (a:TP) (c:Int):Option mF:=
(zJ n b a.X a.Y c).bind fun d=>
some (d)
abbrev nT:=(Bool)
def aE (n:Nat) (a:ByteArray):Option nT:=
(j7 n a).bind fun b=>
some (b)
abbrev nZ:=(Bool)
def iG (n:Nat) (a b c d:TP):Option nZ:=
(R6 n a b c).bind fun e=>
(R6 n a b d).bind fun f=>
bif (decide ((IntKind.wrap .i64 (e*f))<(0))) then (
(R6 n c d a).bind fun g=>
(R6 n c d b).bind fun h=>
some (decide ((IntKind.wrap .i64 (g*h))<(0)))) else (
some (false))
abbrev nN:=(Bool)
def rP (n:Nat) (a b c d:TP):Option nN:=
(iG n a b c d).bind fun e=>
bif e then (
some (true)) else (
(Py n a b c).bind fun f=>
bif f then (
some (true)) else (
(Py n a b d).bind fun g=>
bif g then (
some (true)) else (
(Py n c d a).bind fun h=>
bif h then (
some (true)) else (
(Py n c d b).bind fun i=>
some (i)))))
abbrev Pc:=(Int)
def K8 (n:Nat) (b:List TP) (h d c a:Int):Option ((Int×Int)⊕Pc):=
bif (decide (a<d)) then (
(Cd b a).bind fun e=>
(N9 n b a).bind fun f=>
(sI n e f).bind fun g=>
some (.inl ((IntKind.wrap .i64 (c+g)),(IntKind.wrap .i64 (a+(1)))))) else (
some (.inr (c)))
def pK (n:Nat) (a:List TP):Option Pc:=
A7 (fun y:Int×Int=>K8 n a (0) (a.length:Int) y.1 y.2) n ((0),(0))
abbrev Gt:=(Int)
def F4 (n:Nat) (b:List TP) (j c3 c k a:Int):Option ((Int)⊕((Int)⊕Gt)):=
bif (decide (a<c3)) then (
(Nh (IntKind.wrap .i64 (a+(1))) c3).bind fun d=>
bif (d !=c) then (
(Cd b c).bind fun e=>
(N9 n b c).bind fun f=>
(Cd b a).bind fun g=>
(N9 n b a).bind fun h=>
(rP n e f g h).bind fun i=>
bif i then (
some (.inr (.inr (3)))) else (
some (.inl (IntKind.wrap .i64 (a+(1)))))) else (
some (.inl (IntKind.wrap .i64 (a+(1)))))) else (
some (.inr (.inl (IntKind.wrap .i64 (c+(1))))))
def Jy (n:Nat) (b:List TP) (d c3 c a:Int):Option ((Int)⊕Gt):=
bif (decide (a<c)) then (
(Cd b a).bind fun e=>
(N9 n b a).bind fun f=>
(Nh (IntKind.wrap .i64 (a+(2))) c3).bind fun g=>
(Cd b g).bind fun h=>
(R6 n e f h).bind fun i=>
bif (i==(0)) then (
some (.inr (3))) else (
A7 (fun y:Int=>F4 n b d c3 a c y) n (IntKind.wrap .i64 (a+(2))))) else (
(pK n b).bind fun j=>
bif (decide (j≤(0))) then (
some (.inr (3))) else (
some (.inr (0))))
def Jh (n:Nat) (a:List TP) (d c3 b:Int):Option ((Int)⊕Gt):=
bif (decide (b<c3)) then (
(Cd a b).bind fun e=>
(iO n e).bind fun c=>
bif (c !=(0)) then (
some (.inr (c))) else (
some (.inl (IntKind.wrap .i64 (b+(1)))))) else (
((A7 (fun y:Int=>Jy n a d c3 (a.length:Int) y) n (0)).map Sum.inr))
def cE (n:Nat) (a:List TP):Option Gt:=
bif (decide ((a.length:Int)>(16))) then (
some (2)) else (
bif (decide ((a.length:Int)<(3))) then (
some (3)) else (
A7 (fun y:Int=>Jh n a (0) (a.length:Int) y) n (0)))
abbrev lJ:=(Int)
def Vt (n:Nat) (a:Al):Option lJ:=
(cE n a.D0).bind fun b=>
bif (b !=(0)) then (
some (b)) else (
bif (decide (a.Hw<(0))) then (
some (4)) else (
bif (decide (a.D4>(60001))) then (
some (4)) else (
bif (decide (a.Hw≥a.D4)) then (
some (4)) else (
some (0)))))
abbrev lR:=(Bool)
def pI (n:Nat) (a:Au) (b:ByteArray) (c:List Al):Option lR:=
some ((a.Name).toList==(b).toList)
def Dv (n:Nat) (b:List Au) (c:ByteArray) (d:List Al) (g c7 a:Int):Option ((Int)⊕G5):=
bif (decide (a<c7)) then (
(Cd b a).bind fun e=>
(pI n e c d).bind fun f=>
bif f then (
some (.inr (a))) else (
some (.inl (IntKind.wrap .i64 (a+(1)))))) else (
some (.inr (-1)))
def Rt (n:Nat) (a:List Au) (b:ByteArray) (c:List Al):Option G5:=
A7 (fun y:Int=>Dv n a b c (0) (a.length:Int) y) n (0)
abbrev lF:=(Bool)
def cO (n:Nat) (a:List Au) (b:ByteArray) (c:List Al):Option lF:=
(Rt n a b c).bind fun d=>
some (decide (d≥(0)))
abbrev P7:=((List TP))
def Kr (n:Nat) (d:List TP) (c7 b:Int) (c:List TP):Option ((Int×List TP)⊕P7):=
bif (decide (b<c7)) then (
(Cd d b).bind fun a=>
(Gl (c.length+([(⟨IntKind.wrap .i64 ((2)*a.X),IntKind.wrap .i64 ((2)*a.Y)⟩:TP)]:List TP).length) 16).bind fun e=>
some (.inl ((IntKind.wrap .i64 (b+(1))),(c++([(⟨IntKind.wrap .i64 ((2)*a.X),IntKind.wrap .i64 ((2)*a.Y)⟩:TP)]:List TP))))) else (
some (.inr (c)))
def kE (n:Nat) (a:List TP):Option P7:=
A7 (fun y:Int×List TP=>Kr n a (a.length:Int) y.1 y.2) n ((0),[])
abbrev nP:=(Int)
def N6 (n:Nat) (c d:TP) (a b:Int):Option nP:=
(dM n (⟨a,b⟩:TP) c).bind fun e=>
(dM n (⟨a,b⟩:TP) d).bind fun f=>
some (IntKind.wrap .i64 (e-f))
abbrev Fi:=(Bool)
def Et (n:Nat) (r b:List TP) (s:Bool) (e t u f g h i j k l u101:Int) (a:List TP):Option ((Int×List TP)⊕((Int×List TP)⊕((Int)⊕Fi))):=
bif (decide (u101<f)) then (
(Cd b u101).bind fun c=>
(N9 n b u101).bind fun d=>
(Py n c d (⟨k,l⟩:TP)).bind fun m=>
bif m then (
(Z2 n (⟨i,j⟩:TP) (⟨g,h⟩:TP)).bind fun o=>
(Z2 n d c).bind fun p=>
(iQ n o p).bind fun q=>
bif (decide (q>(0))) then (
some (.inr (.inr (.inr (true))))) else (
some (.inl ((IntKind.wrap .i64 (u101+(1))),a)))) else (
some (.inl ((IntKind.wrap .i64 (u101+(1))),a)))) else (
some (.inr (.inl ((IntKind.wrap .i64 (e+(1))),a))))
def Ge (n:Nat) (j c:List TP) (k:Bool) (l d m o p q a:Int) (b:List TP):Option ((Int×List TP)⊕((Int)⊕Fi)):=
bif (decide (a<(b.length:Int))) then (
(Cd b a).bind fun r=>
(Cd b (IntKind.wrap .i64 (a-(1)))).bind fun s=>
bif (decide (r=s)) then (
some (.inl ((IntKind.wrap .i64 (a+(1))),b))) else (
(Cd b a).bind fun e=>
(Cd b (IntKind.wrap .i64 (a-(1)))).bind fun f=>
(Cd b a).bind fun g=>
(Cd b (IntKind.wrap .i64 (a-(1)))).bind fun h=>
(j0 n c (⟨IntKind.wrap .i64 (Int.tdiv (IntKind.wrap .i64 (e.X+f.X)) (2)),IntKind.wrap .i64 (Int.tdiv (IntKind.wrap .i64 (g.Y+h.Y)) (2))⟩:TP)).bind fun i=>
bif (i==(1)) then (
some (.inr (.inr (true)))) else (
bif (i==(0)) then (
A7 (fun y:Int×List TP=>Et n j c k a l d (c.length:Int) m o p q (IntKind.wrap .i64 (Int.tdiv (IntKind.wrap .i64 (e.X+f.X)) (2))) (IntKind.wrap .i64 (Int.tdiv (IntKind.wrap .i64 (g.Y+h.Y)) (2))) y.1 y.2) n ((0),b)) else (
some (.inl ((IntKind.wrap .i64 (a+(1))),b)))))) else (
some (.inr (.inl (IntKind.wrap .i64 (d+(1))))))
def Gx (n:Nat) (i f:List TP) (j:Bool) (k l m c d g h a:Int) (b:List TP):Option ((Int×List TP)⊕((Int)⊕Fi)):=
bif (decide (a<m)) then (
(Cd f a).bind fun e=>
(Py n (⟨c,d⟩:TP) (⟨g,h⟩:TP) e).bind fun o=>
bif o then (
(Gl (b.length+([e]:List TP).length) 16).bind fun q=>
some (.inl ((IntKind.wrap .i64 (a+(1))),(b++([e]:List TP))))) else (
some (.inl ((IntKind.wrap .i64 (a+(1))),b)))) else (
(Gs (fun x y=>N6 n x y c d) b).bind fun p=>
((A7 (fun y:Int×List TP=>Ge n i f j k l c d g h y.1 y.2) n ((1),p)).map Sum.inr))
def K6 (n:Nat) (b e:List TP) (g:Bool) (f a:Int):Option ((Int)⊕Fi):=
bif (decide (a<f)) then (
(Cd b a).bind fun c=>
(N9 n b a).bind fun d=>
A7 (fun y:Int×List TP=>Gx n b e g f a (e.length:Int) c.X c.Y d.X d.Y y.1 y.2) n ((0),([c,d]:List TP))) else (
some (.inr (false)))
def jG (n:Nat) (a b:List TP):Option Fi:=
A7 (fun y:Int=>K6 n a b false (a.length:Int) y) n (0)
abbrev Gv:=(Bool×Int)
def Gu (n:Nat) (c d:List TP) (k:Bool) (c5 b l e a:Int):Option ((Int)⊕((Int)⊕Gv)):=
bif (decide (a<e)) then (
(Cd c b).bind fun f=>
(N9 n c b).bind fun g=>
(Cd d a).bind fun h=>
(N9 n d a).bind fun i=>
(iG n f g h i).bind fun j=>
bif j then (
some (.inr (.inr (true,(0))))) else (
some (.inl (IntKind.wrap .i64 (a+(1)))))) else (
some (.inr (.inl (IntKind.wrap .i64 (b+(1))))))
def Jz (n:Nat) (b a:List TP) (g:Bool) (c5 c d:Int):Option ((Int)⊕Gv):=
bif (decide (d<c)) then (
A7 (fun y:Int=>Gu n b a g c5 d c (a.length:Int) y) n (0)) else (
(kE n b).bind fun e=>
(kE n a).bind fun f=>
(jG n e f).bind fun h=>
bif h then (
some (.inr (true,(0)))) else (
(jG n f e).bind fun i=>
some (.inr (i,(0)))))
def Jw (n:Nat) (b d:List TP) (e:Bool) (c5:Int) (Ll:List (List TP)) (f a:Int):Option ((Int)⊕Gv):=
bif (decide (a<f)) then (
(Cd Ll a).bind fun g=>
(cE n g).bind fun c=>
bif (c !=(0)) then (
some (.inr (false,c))) else (
some (.inl (IntKind.wrap .i64 (a+(1)))))) else (
((A7 (fun y:Int=>Jz n b d e c5 (b.length:Int) y) n (0)).map Sum.inr))
def sC (n:Nat) (a b:List TP):Option Gv:=
A7 (fun y:Int=>Jw n a b false (0) ([a,b]:List (List TP)) (([a,b]:List (List TP)).length:Int) y) n (0)
abbrev Qp:=(Bool×Int)
def J2 (n:Nat) (l:Bool) (c5:Int) (Ll:List Al) (h:Int) (i:List TP) (c d:Int) (j:List TP) (e f b:Int):Option ((Int)⊕Qp):=
bif (decide (b<h)) then (
(Cd Ll b).bind fun k=>
(Vt n k).bind fun g=>
bif (g !=(0)) then (
some (.inr (false,g))) else (
some (.inl (IntKind.wrap .i64 (b+(1)))))) else (
(sC n i j).bind fun a=>
bif (a.2==(0)) then (
bif a.1 then (
some (.inr ((decide ((if e>c then e else c)<(if f<d then f else d))),a.2))) else (
some (.inr (false,a.2)))) else (
some (.inr (false,a.2))))
def pP (n:Nat) (a b:Al):Option Qp:=
A7 (fun y:Int=>J2 n false (0) ([a,b]:List Al) (([a,b]:List Al).length:Int) a.D0 a.Hw a.D4 b.D0 b.Hw b.D4 y) n (0)
abbrev Fj:=(Int)
def Ej (n:Nat) (e:List Au) (j c k:Int) (Mm:List Al) (dV:Int) (f:ByteArray) (a:Int) (b:List Al):Option ((Int×List Al)⊕((Int×List Al)⊕Fj)):=
bif (decide (a<dV)) then (
(Cd Mm a).bind fun g=>
(Vt n g).bind fun d=>
bif (d !=(0)) then (
some (.inr (.inr (d)))) else (
some (.inl ((IntKind.wrap .i64 (a+(1))),b)))) else (
(Lb e none (some c)).bind fun h=>
(cO n h f Mm).bind fun i=>
bif i then (
some (.inr (.inr (7)))) else (
(neO Mm).bind fun l=>
(Gl (b.length+Mm.length) 40).bind fun m=>
some (.inr (.inl ((IntKind.wrap .i64 (c+(1))),(b++Mm))))))
def Gz (n:Nat) (j:Int) (k:List Al) (l b:Int) (c:List Al) (d:Int) (e:List TP) (f g a:Int):Option ((Int)⊕((Int)⊕Fj)):=
bif (decide (a<d)) then (
(Cd c a).bind fun h=>
(pP n (⟨e,f,g⟩:Al) h).bind fun i=>
bif i.1 then (
some (.inr (.inr (19)))) else (
some (.inl (IntKind.wrap .i64 (a+(1)))))) else (
some (.inr (.inl (IntKind.wrap .i64 (b+(1))))))
def I6 (n:Nat) (f:Int) (b:List Al) (d a:Int):Option ((Int)⊕Fj):=
bif (decide (a<d)) then (
(Cd b a).bind fun c=>
(Lb b none (some a)).bind fun e=>
A7 (fun y:Int=>Gz n f b d a e (e.length:Int) c.D0 c.Hw c.D4 y) n (0)) else (
some (.inr (0)))
def G6 (n:Nat) (d:List Au) (e f b:Int) (c:List Al):Option ((Int×List Al)⊕Fj):=
bif (decide (b<f)) then (
(Cd d b).bind fun a=>
(aE n a.Name).bind fun g=>
bif (!g) then (
some (.inr (3))) else (
bif ((a.Room.length:Int)==(0)) then (
some (.inr (8))) else (
bif (decide ((a.Room.length:Int)>(4))) then (
some (.inr (2))) else (
A7 (fun y:Int×List Al=>Ej n d e b f a.Room (a.Room.length:Int) a.Name y.1 y.2) n ((0),c))))) else (
((A7 (fun y:Int=>I6 n e c (c.length:Int) y) n (0)).map Sum.inr))
def fB (n:Nat) (a:List Au):Option Fj:=
bif (decide ((a.length:Int)>(12))) then (
some (2)) else (
A7 (fun y:Int×List Al=>G6 n a (0) (a.length:Int) y.1 y.2) n ((0),[]))
abbrev Y3:=(Int)
def Lv (n:Nat) (f:Int) (c:List (List Ad)) (d a:Int):Option ((Int)⊕Y3):=
bif (decide (a<d)) then (
(Cd c a).bind fun e=>
(eA n e).bind fun b=>
bif (b !=(0)) then (
some (.inr (b))) else (
some (.inl (IntKind.wrap .i64 (a+(1)))))) else (
some (.inr (0)))
def g41 (n:Nat) (c:List Au) (a:List (List Ad)):Option Y3:=
(fB n c).bind fun b=>
bif (b !=(0)) then (
some (b)) else (
bif (decide ((a.length:Int)>(24))) then (
some (2)) else (
A7 (fun y:Int=>Lv n (0) a (a.length:Int) y) n (0)))
abbrev bD:=((List Int)×Int)
def Qa (n:Nat) (f:List Au) (g c7:Int) (h:List (List Ad)) (i c b:Int) (a:List Int):Option ((Int×Int×List Int)⊕bD):=
bif (decide (b<i)) then (
(Cd h b).bind fun j=>
(g15 n j g).bind fun d=>
bif (d.2 !=(0)) then (
some (.inl (c,IntKind.wrap .i64 (b+(1)),a))) else (
(sD n f (⟨d.1.A5,d.1.A6⟩:TP) d.1.Ar).bind fun e=>
bif (decide (e≥(0))) then (
(Cd a e).bind fun k=>
(Cd a e).bind fun l=>
some (.inl (c,IntKind.wrap .i64 (b+(1)),(a.set ((e:Int).toNat) (IntKind.wrap .i64 (k+(1))))))) else (
some (.inl ((IntKind.wrap .i64 (c+(1))),IntKind.wrap .i64 (b+(1)),a))))) else (
some (.inr (a,c)))
def g42 (n:Nat) (a:List Au) (b:List (List Ad)) (c:Int):Option bD:=
(e9 (a.length:Int) 8).bind fun d=>
A7 (fun y:Int×Int×List Int=>Qa n a c (0) b (b.length:Int) y.1 y.2.1 y.2.2) n ((0),0,(List.replicate d (0)))
abbrev ρ5:=((List Int)×Int×Int)
def g5 (n:Nat) (b:List Au) (c:List (List Ad)) (a:Int):Option ρ5:=
(g41 n b c).bind fun d=>
bif (d !=(0)) then (
some ([],0,d)) else (
bif (decide (a<(0))) then (
some ([],0,(12))) else (
bif (decide (a>(200000))) then (
some ([],0,(12))) else (
(g42 n b c a).bind fun e=>
some (e.1,e.2,(0)))))
abbrev ρ7:=(Int)
def g7 (n:Nat) (a b:Int):Option ρ7:=
(Nh (IntKind.wrap .u64 a) (IntKind.wrap .u64 b)).bind fun c=>
some (IntKind.wrap .i64 c)
abbrev Agl:=(Bool)
def g53 (n:Nat) (a:Ab) (b:ByteArray):Option Agl:=
some ((a.Position).toList==(b).toList)
def Fe (n:Nat) (b:List Ab) (c:ByteArray) (f c7 a:Int):Option ((Int)⊕G3):=
bif (decide (a<c7)) then (
(Cd b a).bind fun d=>
(g53 n d c).bind fun e=>
bif e then (
some (.inr (a))) else (
some (.inl (IntKind.wrap .i64 (a+(1)))))) else (
some (.inr (-1)))
def T4 (n:Nat) (a:List Ab) (b:ByteArray):Option G3:=
A7 (fun y:Int=>Fe n a b (0) (a.length:Int) y) n (0)
abbrev Adw:=(Bool)
def g52 (n:Nat) (a:List Ab) (b:ByteArray):Option Adw:=
(T4 n a b).bind fun c=>
some (decide (c≥(0)))
abbrev Z3:=(ByteArray)
def Nn (n:Nat) (d:List Ab) (b:List ByteArray) (h:ByteArray) (e a:Int):Option ((Int)⊕Z3):=
bif (decide (a<e)) then (
(Cd b a).bind fun c=>
(g52 n d c).bind fun f=>
bif (!f) then (
some (.inr (c))) else (
some (.inl (IntKind.wrap .i64 (a+(1)))))) else (
(Cd b (0)).bind fun g=>
some (.inr (g)))
def g10 (n:Nat) (b:List Ab) (a:List ByteArray):Option Z3:=
A7 (fun y:Int=>Nn n b a (⟨#[]⟩:ByteArray) (a.length:Int) y) n (0)
abbrev Y0:=(ByteArray)
def No (n:Nat) (c g:ByteArray) (d:List Ab) (e a:Int):Option ((Int)⊕Y0):=
bif (decide (a<e)) then (
(Cd d a).bind fun b=>
(g44 n b.Ak c).bind fun f=>
bif f then (
some (.inr (b.Position))) else (
some (.inl (IntKind.wrap .i64 (a+(1)))))) else (
some (.inr (⟨#[]⟩:ByteArray)))
def g54 (n:Nat) (a:List Ab) (b:ByteArray):Option Y0:=
A7 (fun y:Int=>No n b (⟨#[]⟩:ByteArray) a (a.length:Int) y) n (0)
abbrev Agy:=(ByteArray×Int)
def g12 (n:Nat) (a:List Ab) (d:ByteArray):Option Agy:=
(o7 n a).bind fun b=>
bif (b !=(0)) then (
some ((⟨#[]⟩:ByteArray),b)) else (
(g54 n a d).bind fun c=>
bif ((c).toList==((⟨#[]⟩:ByteArray)).toList) then (
some ((⟨#[]⟩:ByteArray),(8))) else (
some (c,(0))))
abbrev Zs:=(Bool)
def Nx (n:Nat) (b c:List ByteArray) (f:Bool) (Hu a:Int):Option ((Int)⊕Zs):=
bif (decide (a<Hu)) then (
(Cd b a).bind fun d=>
(Cd c a).bind fun e=>
bif (!((d).toList==(e).toList)) then (
some (.inr (false))) else (
some (.inl (IntKind.wrap .i64 (a+(1)))))) else (
some (.inr (true)))
def g16 (n:Nat) (a b:List ByteArray):Option Zs:=
bif ((a.length:Int) !=(b.length:Int)) then (
some (false)) else (
A7 (fun y:Int=>Nx n a b false (a.length:Int) y) n (0))
abbrev ρ8:=List Ab×Int
def g8 (n:Nat) (l:List Ab) (to from_:ByteArray):Option ρ8:=
 (o7 n l).bind fun e=>bif e !=0 then some ([],e) else
 (g47 n l to).bind fun i=>(g47 n l from_).bind fun k=>
 if i<0∨k<0 then some ([],8) else if i=k then some ([],1) else
 (l[i.toNat]?).bind fun x=>(l[k.toNat]?).bind fun y=>
 if l.length≤1000∧x.Ak.length+y.Ak.length≤1000∧(∀g∈l,g.Ak.length≤1000∧0<g.Ak.length) then some ((l.set i.toNat ⟨x.Position,Dr (x.Ak++y.Ak)⟩).eraseIdx k.toNat,0) else none
abbrev ρ9:=List Ab×Int
def Gc (L:List ByteArray) (s:ByteArray):Bool:=L.any fun x=>s.toList==x.toList
def g9 (n:Nat) (l:List Ab) (from_ to:ByteArray) (names:List ByteArray):Option ρ9:=
 (o7 n l).bind fun e=>bif e !=0 then some ([],e) else
 (g47 n l from_).bind fun i=>if i<0 then some ([],8) else
 (j7 n to).bind fun b=>bif !b then some ([],3) else
 (g47 n l to).bind fun k=>if k≥0 then some ([],7) else
 (l[i.toNat]?).bind fun x=>
 bif !(names.all (Gc x.Ak)) then some ([],6) else
 if l.length≤999∧x.Ak.length≤1000∧(∀g∈l,g.Ak.length≤1000∧0<g.Ak.length) then
  if (x.Ak.filter (Gc names)).length=0∨(x.Ak.filter (Gc names)).length=x.Ak.length then some ([],11) else
  (Gs (fun a b=>some (Go.Lib.compareBytes a.Position.data.toList b.Position.data.toList)) (l.set i.toNat ⟨x.Position,x.Ak.filter fun s=> !Gc names s⟩++[⟨to,x.Ak.filter (Gc names)⟩])).map fun r=>(r,0) else none
abbrev ρ6:=List Ab×Int
def cN (n:Nat):List ByteArray→List ByteArray→Option Int
 |[],_=>some 0
 |s::r,p=>(j7 n s).bind fun b=>bif !b then some 3 else bif Gc p s then some 7 else cN n r (p++[s])
def Nw (s:ByteArray):Ab:=⟨s,[s]⟩
def g6 (n:Nat) (names:List ByteArray):Option ρ6:=
 if names.length=0 then none else if 12<names.length then some ([],2) else
 (cN n names []).bind fun e=>bif e !=0 then some ([],e) else
 (Gs (fun a b=>some (Go.Lib.compareBytes a.Position.data.toList b.Position.data.toList)) (names.map Nw)).map fun r=>(r,0)
abbrev ρ4:=Bool
def g4 (n:Nat):Option ρ4:=some true
abbrev Po:=(Bool)
def Om (n:Nat) (o:List (List Ad)) (p:Int) (q:Bool) (g:List Int) (Em:Int) (h:List Ab) (Ga i:Int) (j:List ByteArray) (k:Int) (l:ByteArray) (c a:Int) (b:List ByteArray):Option ((Int×Int×List ByteArray)⊕((Int×Int×List ByteArray)⊕Po)):=
bif (decide (a<k)) then (
(Cd j a).bind fun d=>
(g11 n b d).bind fun e=>
(g12 n h d).bind fun f=>
bif (decide (e<(0))) then (
some (.inr (.inr (false)))) else (
bif (f.2 !=(0)) then (
some (.inr (.inr (false)))) else (
bif (!((f.1).toList==(l).toList)) then (
some (.inr (.inr (false)))) else (
(Cd g e).bind fun m=>
some (.inl ((IntKind.wrap .i64 (c+m)),IntKind.wrap .i64 (a+(1)),b)))))) else (
some (.inr (.inl (c,IntKind.wrap .i64 (i+(1)),b))))
def iT (n:Nat) (d:Int) (j:Bool) (Em:Int) (e:List ByteArray) (f:List (List Ad)) (Ro b a:Int) (c:List ByteArray):Option ((Int×Int×List ByteArray)⊕Po):=
bif (decide (a<Ro)) then (
(Cd f a).bind fun g=>
(g15 n g d).bind fun h=>
bif (h.2==(0)) then (
some (.inl ((IntKind.wrap .i64 (b-(1))),IntKind.wrap .i64 (a+(1)),c))) else (
some (.inl (b,IntKind.wrap .i64 (a+(1)),c)))) else (
bif (Em==(0)) then (
(g16 n e c).bind fun i=>
bif i then (
some (.inr (b==(0)))) else (
some (.inr (false)))) else (
some (.inr (false))))
def gL (n:Nat) (a:List (List Ad)) (f:Int) (g:Bool) (j:List Int) (Em:Int) (b:List Ab) (Ga h c:Int) (d:List ByteArray):Option ((Int×Int×List ByteArray)⊕Po):=
bif (decide (c<Ga)) then (
(Cd b c).bind fun e=>
A7 (fun y:Int×Int×List ByteArray=>Om n a f g j Em b Ga c e.Ak (e.Ak.length:Int) e.Position y.1 y.2.1 y.2.2) n (h,0,d)) else (
(g13 n b).bind fun i=>
(cQ d).bind fun k=>
((A7 (fun y:Int×Int×List ByteArray=>iT n f g i.2 i.1 a (a.length:Int) y.1 y.2.1 y.2.2) n (h,0,(Dr d))).map Sum.inr))
def gS (n:Nat) (h:List (List Ad)) (i:Int) (j:Bool) (k:List Int) (Jt Em:Int) (l:List Int) (m:Int) (a:List Ab) (b:Int) (c:List ByteArray):Option ((List Ab×Int×List ByteArray)⊕Po):=
bif (decide (b<m)) then (
(Cd l b).bind fun e=>
bif ((a.length:Int)==(0)) then (
some (.inr (false))) else (
(g7 n e (a.length:Int)).bind fun o=>
(Cd a o).bind fun d=>
(g7 n (IntKind.wrap .i64 (Int.tdiv e (20))) (a.length:Int)).bind fun p=>
(Cd a p).bind fun q=>
bif ((d.Ak.length:Int)==(0)) then (
some (.inr (false))) else (
(g8 n a d.Position q.Position).bind fun f=>
(g7 n (IntKind.wrap .i64 (Int.tdiv e (7))) (2)).bind fun r=>
bif (r==(0)) then (
(g10 n a c).bind fun s=>
(Lb d.Ak none (some (1))).bind fun t=>
(g9 n a d.Position s t).bind fun g=>
bif (g.2==(0)) then (
some (.inl (g.1,IntKind.wrap .i64 (b+(1)),c))) else (
some (.inl (a,IntKind.wrap .i64 (b+(1)),c)))) else (
bif (f.2==(0)) then (
some (.inl (f.1,IntKind.wrap .i64 (b+(1)),c))) else (
some (.inl (a,IntKind.wrap .i64 (b+(1)),c))))))) else (
((A7 (fun y:Int×Int×List ByteArray=>gL n h i j k Em a (a.length:Int) y.1 y.2.1 y.2.2) n (Jt,0,c)).map Sum.inr))
def qW (n:Nat) (d:List Au) (h:List (List Ad)) (i:Int) (e:List Int) (j:Bool) (f:List Int) (Jt Em kA b:Int) (a:List ByteArray):Option ((Int×List ByteArray)⊕Po):=
bif (decide (b<kA)) then (
(Cd d b).bind fun g=>
(Gl (a.length+([g.Name]:List ByteArray).length) 16).bind fun k=>
some (.inl ((IntKind.wrap .i64 (b+(1))),(a++([g.Name]:List ByteArray))))) else (
(g6 n a).bind fun c=>
bif (c.2 !=(0)) then (
some (.inr (false))) else (
bif ((f.length:Int) !=(d.length:Int)) then (
some (.inr (false))) else (
((A7 (fun y:List Ab×Int×List ByteArray=>gS n h i j f Jt c.2 e (e.length:Int) y.1 y.2.1 y.2.2) n (c.1,0,a)).map Sum.inr))))
def g3 (n:Nat) (a:List Au) (c:List (List Ad)) (d:Int) (e:List Int):Option Po:=
(g4 n).bind fun f=>
bif (!f) then (
some (false)) else (
(g5 n a c d).bind fun b=>
bif (b.2.2 !=(0)) then (
some (true)) else (
bif (decide ((e.length:Int)>(60))) then (
some (true)) else (
bif ((a.length:Int)==(0)) then (
some (true)) else (
A7 (fun y:Int×List ByteArray=>qW n a c d e false b.1 b.2.1 b.2.2 (a.length:Int) y.1 y.2) n ((0),[])))))
end Go.Proofs.YtmechmjjcgdpdaaGreatDoor
