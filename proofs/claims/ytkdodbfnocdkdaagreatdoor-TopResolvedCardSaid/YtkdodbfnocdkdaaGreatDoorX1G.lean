/- A part. -/
import Derived.Test.YtkdodbfnocdkdaaGreatDoorX1T
import Derived.Test.YtkdodbfnocdkdaaGreatDoorPJ
import Derived.Test.YtkdodbfnocdkdaaGreatDoorPL
import Derived.Test.YtkdodbfnocdkdaaGreatDoorPn
import Derived.Test.YtkdodbfnocdkdaaGreatDoorRpH
set_option linter.unusedVariables false
set_option linter.unusedSimpArgs false
set_option maxRecDepth 100000
set_option maxHeartbeats 4000000
namespace Go.Proofs.YtkdodbfnocdkdaaGreatDoor
abbrev Aie:=(Int)
def gB (n:Nat) (a:Db):Option Aie:=
bif (decide (a.Bf<(0))) then (
some (4)) else (
bif (decide (a.Bf>(1000000))) then (
some (4)) else (
bif (decide (a.A9<(0))) then (
some (4)) else (
bif (decide (a.A9>(60000))) then (
some (4)) else (
some (0)))))
abbrev Ake:=(Int)
def Ty (n:Nat) (a:TP):Option Ake:=
bif (decide (a.X<(-1000000))) then (
some (4)) else (
bif (decide (a.X>(1000000))) then (
some (4)) else (
bif (decide (a.Y<(-1000000))) then (
some (4)) else (
bif (decide (a.Y>(1000000))) then (
some (4)) else (
some (0)))))
abbrev zP:=(Int)
def K6 (n:Nat) (c:List Ab) (h f b:Int):Option ((Int)⊕zP):=
bif (decide (b<f)) then (
(Ch c b).bind fun a=>
bif (decide (a.Ac<(0))) then (
some (.inr (12))) else (
bif (decide (a.Ac>(200000))) then (
some (.inr (12))) else (
bif (decide (b>(0))) then (
(Ch c (IntKind.wrap .i64 (b-(1)))).bind fun g=>
bif (decide (a.Ac≤g.Ac)) then (
some (.inr (12))) else (
(Ty n (⟨a.Ak,a.Aj⟩:TP)).bind fun d=>
bif (d !=(0)) then (
some (.inr (d))) else (
bif (decide (a.Af<(0))) then (
some (.inr (4))) else (
bif (decide (a.Af>(60000))) then (
some (.inr (4))) else (
bif (decide (a.Aw<(0))) then (
some (.inr (4))) else (
bif (decide (a.Aw>(1000000))) then (
some (.inr (4))) else (
bif (decide (a.Bi<(0))) then (
some (.inr (4))) else (
bif (decide (a.Bi>(60000))) then (
some (.inr (4))) else (
some (.inl (IntKind.wrap .i64 (b+(1))))))))))))) else (
(Ty n (⟨a.Ak,a.Aj⟩:TP)).bind fun e=>
bif (e !=(0)) then (
some (.inr (e))) else (
bif (decide (a.Af<(0))) then (
some (.inr (4))) else (
bif (decide (a.Af>(60000))) then (
some (.inr (4))) else (
bif (decide (a.Aw<(0))) then (
some (.inr (4))) else (
bif (decide (a.Aw>(1000000))) then (
some (.inr (4))) else (
bif (decide (a.Bi<(0))) then (
some (.inr (4))) else (
bif (decide (a.Bi>(60000))) then (
some (.inr (4))) else (
some (.inl (IntKind.wrap .i64 (b+(1))))))))))))))) else (
some (.inr (0)))
def Kg (n:Nat) (a:List Ab):Option zP:=
bif (decide ((a.length:Int)>(64))) then (
some (2)) else (
bif ((a.length:Int)==(0)) then (
some (3)) else (
Bw (fun y:Int=>K6 n a (0) (a.length:Int) y) n (0)))
abbrev xE:=(Int)
def mM (n:Nat) (f:Int) (c:List (List Ab)) (d a:Int):Option ((Int)⊕xE):=
bif (decide (a<d)) then (
(Ch c a).bind fun e=>
(Kg n e).bind fun b=>
bif (b !=(0)) then (
some (.inr (b))) else (
some (.inl (IntKind.wrap .i64 (a+(1)))))) else (
some (.inr (0)))
def g65 (n:Nat) (c:Db) (a:List (List Ab)):Option xE:=
(gB n c).bind fun b=>
bif (b !=(0)) then (
some (b)) else (
Bw (fun y:Int=>mM n (0) a (a.length:Int) y) n (0))
abbrev u9:=(Int×Int)
def Wi (n:Nat) (a b:List Ab):Option u9:=
(Ch a (0)).bind fun c=>
(Ch b (0)).bind fun d=>
(Ch a (IntKind.wrap .i64 ((a.length:Int)-(1)))).bind fun e=>
(Ch b (IntKind.wrap .i64 ((b.length:Int)-(1)))).bind fun f=>
some ((if d.Ac>c.Ac then d.Ac else c.Ac),(if f.Ac<e.Ac then f.Ac else e.Ac))
abbrev yI:=(Int×Int)
def xY (n:Nat) (a:List Ab):Option yI:=
(Ch a (0)).bind fun b=>
(Ch a (IntKind.wrap .i64 ((a.length:Int)-(1)))).bind fun c=>
some (b.Ac,c.Ac)
abbrev uB:=(Int)
def iZ (n:Nat) (a:Ab) (b:Int):Option uB:=
some (IntKind.wrap .i64 (a.Ac-b))
abbrev eB:=(Int×Bool)
def Vy (n:Nat) (c:List Ab) (d c6:Int) (c7:Bool) (c8 a b:Int):Option ((Int×Int)⊕eB):=
bif (decide (a<b)) then (
(Ch c (IntKind.wrap .i64 (Int.fdiv (IntKind.wrap .u64 (IntKind.wrap .i64 (a+b))) 2))).bind fun e=>
(iZ n e d).bind fun f=>
bif (decide (f<(0))) then (
some (.inl ((IntKind.wrap .i64 ((IntKind.wrap .i64 (Int.fdiv (IntKind.wrap .u64 (IntKind.wrap .i64 (a+b))) 2))+(1))),b))) else (
some (.inl (a,(IntKind.wrap .i64 (Int.fdiv (IntKind.wrap .u64 (IntKind.wrap .i64 (a+b))) 2)))))) else (
bif (decide (a<c8)) then (
(Ch c a).bind fun g=>
(iZ n g d).bind fun h=>
some (.inr (a,(h==(0))))) else (
some (.inr (a,false))))
def oL (n:Nat) (a:List Ab) (b:Int):Option eB:=
Bw (fun y:Int×Int=>Vy n a b (0) false (a.length:Int) y.1 y.2) n ((0),(a.length:Int))
abbrev uT:=(Int×Int)
def O3 (n:Nat) (b a:Int):Option uT:=
bif (a==(0)) then (
some ((0),(10))) else (
bif (b==(-9223372036854775808)) then (
bif (a==(-1)) then (
some ((0),(2))) else (
(Ky b a).bind fun c=>
(L4 b a).bind fun e=>
bif (e !=(0)) then (
bif (!((decide (b<(0)))==(decide (a<(0))))) then (
some ((IntKind.wrap .i64 ((IntKind.wrap .i64 c)-(1))),(0))) else (
some ((IntKind.wrap .i64 c),(0)))) else (
some ((IntKind.wrap .i64 c),(0))))) else (
(Ky b a).bind fun d=>
(L4 b a).bind fun f=>
bif (f !=(0)) then (
bif (!((decide (b<(0)))==(decide (a<(0))))) then (
some ((IntKind.wrap .i64 ((IntKind.wrap .i64 d)-(1))),(0))) else (
some ((IntKind.wrap .i64 d),(0)))) else (
some ((IntKind.wrap .i64 d),(0)))))
abbrev uH:=(TP×Int)
def V9 (n:Nat) (a c:TP) (d b:Int):Option uH:=
bif (decide (b≤(0))) then (
some ((⟨0,0⟩:TP),(10))) else (
bif (decide (b>(200000))) then (
some ((⟨0,0⟩:TP),(4))) else (
bif (decide (d<(0))) then (
some ((⟨0,0⟩:TP),(4))) else (
bif (decide (d>b)) then (
some ((⟨0,0⟩:TP),(4))) else (
(Ty n a).bind fun e=>
bif (e !=(0)) then (
(Ty n a).bind fun f=>
some ((⟨0,0⟩:TP),f)) else (
(Ty n c).bind fun g=>
bif (g !=(0)) then (
(Ty n c).bind fun h=>
some ((⟨0,0⟩:TP),h)) else (
(O3 n (IntKind.wrap .i64 ((IntKind.wrap .i64 (c.X-a.X))*d)) b).bind fun i=>
(O3 n (IntKind.wrap .i64 ((IntKind.wrap .i64 (c.Y-a.Y))*d)) b).bind fun j=>
some ((⟨IntKind.wrap .i64 (a.X+i.1),IntKind.wrap .i64 (a.Y+j.1)⟩:TP),(0))))))))
abbrev yR:=(Int×Int)
def Me (n:Nat) (b c:Int):Option yR:=
(O3 n b c).bind fun a=>
bif (a.2==(0)) then (
(L4 b c).bind fun d=>
bif (d !=(0)) then (
some ((IntKind.wrap .i64 (a.1+(1))),a.2)) else (
some (a.1,a.2))) else (
some (a.1,a.2))
abbrev sK:=(Ab)
def P1 (n:Nat) (d:List Ab) (c:Int):Option sK:=
(oL n d c).bind fun e=>
bif e.2 then (
(Ch d e.1).bind fun g=>
some (g)) else (
(Ch d (IntKind.wrap .i64 (e.1-(1)))).bind fun a=>
(Ch d e.1).bind fun b=>
(V9 n (⟨a.Ak,a.Aj⟩:TP) (⟨b.Ak,b.Aj⟩:TP) (IntKind.wrap .i64 (c-a.Ac)) (IntKind.wrap .i64 (b.Ac-a.Ac))).bind fun f=>
(O3 n (IntKind.wrap .i64 ((IntKind.wrap .i64 (b.Af-a.Af))*(IntKind.wrap .i64 (c-a.Ac)))) (IntKind.wrap .i64 (b.Ac-a.Ac))).bind fun h=>
(Me n (IntKind.wrap .i64 ((IntKind.wrap .i64 (b.Aw-a.Aw))*(IntKind.wrap .i64 (c-a.Ac)))) (IntKind.wrap .i64 (b.Ac-a.Ac))).bind fun i=>
(Me n (IntKind.wrap .i64 ((IntKind.wrap .i64 (b.Bi-a.Bi))*(IntKind.wrap .i64 (c-a.Ac)))) (IntKind.wrap .i64 (b.Ac-a.Ac))).bind fun j=>
some (⟨c,f.1.X,f.1.Y,IntKind.wrap .i64 (a.Af+h.1),IntKind.wrap .i64 (a.Aw+i.1),IntKind.wrap .i64 (a.Bi+j.1)⟩:Ab))
abbrev Ahr:=(Ab×Int)
def S0 (n:Nat) (a:List Ab) (b:Int):Option Ahr:=
(Kg n a).bind fun c=>
bif (c !=(0)) then (
some ((⟨0,0,0,0,0,0⟩:Ab),c)) else (
(xY n a).bind fun d=>
bif (decide (b<d.1)) then (
some ((⟨0,0,0,0,0,0⟩:Ab),(12))) else (
bif (decide (b>d.2)) then (
some ((⟨0,0,0,0,0,0⟩:Ab),(12))) else (
(P1 n a b).bind fun e=>
some (e,(0)))))
abbrev Aaq:=(TP)
def bP (n:Nat) (a b:TP):Option Aaq:=
some (⟨IntKind.wrap .i64 (a.X-b.X),IntKind.wrap .i64 (a.Y-b.Y)⟩:TP)
abbrev Aae:=(Int)
def oP (n:Nat) (a b:TP):Option Aae:=
some (IntKind.wrap .i64 ((IntKind.wrap .i64 (a.X*b.X))+(IntKind.wrap .i64 (a.Y*b.Y))))
abbrev vZ:=(Int)
def Wa (n:Nat) (b c:TP):Option vZ:=
(bP n b c).bind fun a=>
(oP n a a).bind fun d=>
some (d)
abbrev dH:=(Int)
def Mp (n:Nat) (c d a b:Int):Option ((Int×Int)⊕dH):=
bif (decide (a<b)) then (
bif (decide ((IntKind.wrap .i64 ((IntKind.wrap .i64 (a+(IntKind.wrap .i64 (Int.tdiv (IntKind.wrap .i64 ((IntKind.wrap .i64 (b-a))+(1))) (2)))))*(IntKind.wrap .i64 (a+(IntKind.wrap .i64 (Int.tdiv (IntKind.wrap .i64 ((IntKind.wrap .i64 (b-a))+(1))) (2)))))))≤c)) then (
some (.inl ((IntKind.wrap .i64 (a+(IntKind.wrap .i64 (Int.tdiv (IntKind.wrap .i64 ((IntKind.wrap .i64 (b-a))+(1))) (2))))),b))) else (
some (.inl (a,(IntKind.wrap .i64 ((IntKind.wrap .i64 (a+(IntKind.wrap .i64 (Int.tdiv (IntKind.wrap .i64 ((IntKind.wrap .i64 (b-a))+(1))) (2)))))-(1))))))) else (
some (.inr (a)))
def dU (n:Nat) (a:Int):Option dH:=
bif (decide (a≤(0))) then (
some (0)) else (
Bw (fun y:Int×Int=>Mp n a (0) y.1 y.2) n ((0),(3037000499)))
abbrev uF:=(Int×Int)
def Mf (n:Nat) (c d:TP):Option uF:=
(Wa n c d).bind fun b=>
(dU n b).bind fun a=>
bif (decide ((IntKind.wrap .i64 (a*a))<b)) then (
some (a,(IntKind.wrap .i64 (a+(1))))) else (
some (a,a))
abbrev uP:=(Bool)
def Wf (n:Nat) (a b:Ab) (c:Db):Option uP:=
(Mf n (⟨a.Ak,a.Aj⟩:TP) (⟨b.Ak,b.Aj⟩:TP)).bind fun d=>
bif (decide ((IntKind.wrap .i64 ((IntKind.wrap .i64 (d.1-a.Aw))-b.Aw))≥c.Bf)) then (
some (true)) else (
some (decide ((IntKind.wrap .i64 ((IntKind.wrap .i64 ((if (IntKind.wrap .i64 (b.Af-a.Af))>(IntKind.wrap .i64 (a.Af-b.Af)) then (IntKind.wrap .i64 (b.Af-a.Af)) else (IntKind.wrap .i64 (a.Af-b.Af)))-a.Bi))-b.Bi))≥c.A9)))
abbrev oB:=((List Bq))
def U1 (n:Nat) (c d:List Ab) (c9 e f a:Int) (b:List Bq):Option ((Int×List Bq)⊕oB):=
bif (decide (a≤c9)) then (
(S0 n c a).bind fun g=>
(S0 n d a).bind fun h=>
(Wf n g.1 h.1 (⟨e,f⟩:Db)).bind fun i=>
bif i then (
some (.inl ((IntKind.wrap .i64 (a+(1))),b))) else (
bif (decide ((b.length:Int)>(0))) then (
(Ch b (IntKind.wrap .i64 ((b.length:Int)-(1)))).bind fun j=>
bif (j.To==a) then (
(Ch b (IntKind.wrap .i64 ((b.length:Int)-(1)))).bind fun k=>
some (.inl ((IntKind.wrap .i64 (a+(1))),(b.set (((IntKind.wrap .i64 ((b.length:Int)-(1))):Int).toNat) (⟨k.Cs,IntKind.wrap .i64 (a+(1))⟩:Bq))))) else (
(D0 (b.length+([(⟨a,IntKind.wrap .i64 (a+(1))⟩:Bq)]:List Bq).length) 16).bind fun l=>
some (.inl ((IntKind.wrap .i64 (a+(1))),(b++([(⟨a,IntKind.wrap .i64 (a+(1))⟩:Bq)]:List Bq)))))) else (
(D0 (b.length+([(⟨a,IntKind.wrap .i64 (a+(1))⟩:Bq)]:List Bq).length) 16).bind fun m=>
some (.inl ((IntKind.wrap .i64 (a+(1))),(b++([(⟨a,IntKind.wrap .i64 (a+(1))⟩:Bq)]:List Bq))))))) else (
some (.inr (b)))
def jT (n:Nat) (a b:List Ab) (c:Db):Option oB:=
(Wi n a b).bind fun d=>
Bw (fun y:Int×List Bq=>U1 n a b d.2 c.Bf c.A9 y.1 y.2) n (d.1,[])
abbrev Ajn:=((List Bq)×Int)
def g85 (n:Nat) (a b:List Ab) (c:Db):Option Ajn:=
(g65 n c ([a,b]:List (List Ab))).bind fun d=>
bif (d !=(0)) then (
some ([],d)) else (
(jT n a b c).bind fun e=>
some (e,(0)))
abbrev Aio:=(Int×Int)
def w9 (n:Nat) (b c:List Ab) (d:Db):Option Aio:=
(g85 n b c d).bind fun a=>
bif (a.2 !=(0)) then (
some ((0),a.2)) else (
bif ((a.1.length:Int)==(0)) then (
some ((0),(8))) else (
(Ch a.1 (0)).bind fun e=>
some (e.Cs,(0))))
abbrev R1:=(Int)
def Y7 (n:Nat) (h i j k l m o p q r s t u v w x y c d e f g a:Int):Option ((Int)⊕((Int)⊕R1)):=
bif (decide (a<(4))) then (
(Ch ([d,e,f,g]:List Int) a).bind fun b=>
bif (decide (b<(30))) then (
some (.inr (.inr (4)))) else (
bif (decide (b>(600))) then (
some (.inr (.inr (4)))) else (
some (.inl (IntKind.wrap .i64 (a+(1))))))) else (
some (.inr (.inl (IntKind.wrap .i64 (c+(1))))))
def R7 (n:Nat) (z v d e f g h i j k l m o p q r s t u u32:Int):Option ((Int)⊕((Int)⊕((Int)⊕R1))):=
bif (decide (u32<(4))) then (
(Ch ([(⟨e,f,g,h⟩:Hn),(⟨i,j,k,l⟩:Hn),(⟨m,o,p,q⟩:Hn),(⟨r,s,t,u⟩:Hn)]:List Hn) v).bind fun a=>
(Ch ([a.c0,a.c1,a.c2,a.c3]:List Int) u32).bind fun w=>
(Ch ([(⟨e,f,g,h⟩:Hn),(⟨i,j,k,l⟩:Hn),(⟨m,o,p,q⟩:Hn),(⟨r,s,t,u⟩:Hn)]:List Hn) v).bind fun b=>
(Ch ([b.c0,b.c1,b.c2,b.c3]:List Int) d).bind fun x=>
(Ch ([(⟨e,f,g,h⟩:Hn),(⟨i,j,k,l⟩:Hn),(⟨m,o,p,q⟩:Hn),(⟨r,s,t,u⟩:Hn)]:List Hn) d).bind fun c=>
(Ch ([c.c0,c.c1,c.c2,c.c3]:List Int) u32).bind fun y=>
bif (decide (w>(IntKind.wrap .i64 (x+y)))) then (
some (.inr (.inr (.inr (3))))) else (
some (.inl (IntKind.wrap .i64 (u32+(1)))))) else (
some (.inr (.inl (IntKind.wrap .i64 (d+(1))))))
def Z6 (n:Nat) (c a d e f g h i j k l m o p q r s t b:Int):Option ((Int)⊕((Int)⊕R1)):=
bif (decide (b<(4))) then (
Bw (fun y:Int=>R7 n c a b d e f g h i j k l m o p q r s t y) n (0)) else (
some (.inr (.inl (IntKind.wrap .i64 (a+(1))))))
def wP (n:Nat) (b c d e f g h i j k l m o p q r s a:Int):Option ((Int)⊕R1):=
bif (decide (a<(4))) then (
Bw (fun y:Int=>Z6 n b a c d e f g h i j k l m o p q r s y) n (0)) else (
some (.inr (0)))
def qQ (n:Nat) (t b c d e f g h i j k l m o p q r s:Int):Option ((Int)⊕R1):=
bif (decide (s<(4))) then (
(Ch ([(⟨b,c,d,e⟩:Hn),(⟨f,g,h,i⟩:Hn),(⟨j,k,l,m⟩:Hn),(⟨o,p,q,r⟩:Hn)]:List Hn) s).bind fun a=>
Bw (fun y:Int=>Y7 n t b c d e f g h i j k l m o p q r s a.c0 a.c1 a.c2 a.c3 y) n (0)) else (
((Bw (fun y:Int=>wP n t b c d e f g h i j k l m o p q r y) n (0)).map Sum.inr))
def g96 (n:Nat) (a:Gn):Option R1:=
Bw (fun y:Int=>qQ n (0) a.w6 a.xW a.rY a.sS a.sM a.rV a.vG a.uV a.tI a.Aaz a.xS a.xK a.qY a.rL a.zJ a.Aa5 y) n (0)
abbrev tW:=(Int)
def O5 (n:Nat) (a:Int):Option tW:=
some (Int.tmod (IntKind.wrap .i64 ((Int.tmod a (4096))+(4096))) (4096))
abbrev uG:=(Bool)
def Wp (n a:Nat):Option uG:=
some (fNe a a)
abbrev xH:=(Nat)
def nM (n a:Nat):Option xH:=
some (Int.toNat (Ho .u64 (a:Int) (9223372036854775808)))
abbrev xJ:=(Bool)
def Si (n a:Nat) (b:Int):Option xJ:=
bif (b==(0)) then (
(nM n a).bind fun c=>
some (aO c 9218868437227405311)) else (
bif (decide (b<(0))) then (
some (aO (I0 a) 9218868437227405311)) else (
some (aO a 9218868437227405311)))
abbrev tQ:=(Nat)
def pN (n:Nat):Option tQ:=
some (Int.toNat (9221120237041090561))
abbrev Anq:=(Int×Nat)
def Avb (n a:Nat):Option Anq:=
none
def Xz {ρ:Type} (z:Nat) (k:Nat→Option ρ):Option ρ:=
(Cp 4602678819172646912 z).bind fun a=>
(F1 4607182418800017408 a).bind fun b=>
(Cp z z).bind fun c=>
(Cp 13666448263388469915 z).bind fun d=>
(D6 d 4477121864728985349).bind fun e=>
(Cp e z).bind fun f=>
(D6 f 13732177093698800582).bind fun g=>
(Cp g z).bind fun h=>
(D6 h 4537941361668146421).bind fun i=>
(Cp i z).bind fun j=>
(D6 j 13787419979223748497).bind fun l=>
(Cp l z).bind fun m=>
(D6 m 4586165620538955083).bind fun n=>
(Cp c n).bind fun o=>
(D6 b o).bind k
def pZ {ρ:Type} (y z:Nat) (k:Nat→Option ρ):Option ρ:=
(Cp y z).bind fun a=>
(Cp 4460209587652500685 z).bind fun b=>
(D6 b 13716528389658582877).bind fun c=>
(Cp c z).bind fun d=>
(D6 d 4523617212962785441).bind fun e=>
(Cp e z).bind fun f=>
(D6 f 13774824197404483331).bind fun g=>
(Cp g z).bind fun h=>
(D6 h 4575957461383575504).bind fun i=>
(Cp i z).bind fun j=>
(D6 j 13818544856648471880).bind fun l=>
(Cp a l).bind fun m=>
(D6 y m).bind k
abbrev xM:=(Nat)
def mP (n c:Nat):Option xM:=
bif (nE c 0) then (
some (c)) else (
(Wp n c).bind fun s=>
bif s then (
some (c)) else (
(Si n c (0)).bind fun t=>
bif t then (
(pN n).bind fun u=>
some (u)) else (
bif (fLt c 0) then (
bif (fGe (I0 c) 4737786807993761792) then (
none) else (
(Cp (I0 c) 4608412980311869571).bind fun v=>
(Tu .u64 v).bind fun a=>
bif ((E6 .u64 a (1))==(1)) then (
(D6 (Kp a) 4607182418800017408).bind fun h=>
(Cp h 4605249456957292544).bind fun w=>
(F1 (I0 c) w).bind fun x=>
(Cp h 4495793288086814720).bind fun y=>
(F1 x y).bind fun z=>
(Cp h 4388835458085048688).bind fun aa=>
(F1 z aa).bind fun d=>
bif (decide ((E6 .u64 (IntKind.wrap .u64 (a+(1))) (7))>(3))) then (
(Cp d d).bind fun i=>
bif ((IntKind.wrap .u64 ((E6 .u64 (IntKind.wrap .u64 (a+(1))) (7))-(4)))==(1)) then (
Xz i fun ab=>
some (ab)) else (
bif ((IntKind.wrap .u64 ((E6 .u64 (IntKind.wrap .u64 (a+(1))) (7))-(4)))==(2)) then (
Xz i fun ad=>
some (ad)) else (
pZ d i fun ae=>
some (ae)))) else (
(Cp d d).bind fun j=>
bif ((E6 .u64 (IntKind.wrap .u64 (a+(1))) (7))==(1)) then (
Xz j fun af=>
some (I0 af)) else (
bif ((E6 .u64 (IntKind.wrap .u64 (a+(1))) (7))==(2)) then (
Xz j fun ag=>
some (I0 ag)) else (
pZ d j fun ah=>
some (I0 ah))))) else (
(Cp (Kp a) 4605249456957292544).bind fun ai=>
(F1 (I0 c) ai).bind fun aj=>
(Cp (Kp a) 4495793288086814720).bind fun ak=>
(F1 aj ak).bind fun al=>
(Cp (Kp a) 4388835458085048688).bind fun am=>
(F1 al am).bind fun e=>
bif (decide ((E6 .u64 a (7))>(3))) then (
(Cp e e).bind fun k=>
bif ((IntKind.wrap .u64 ((E6 .u64 a (7))-(4)))==(1)) then (
Xz k fun an=>
some (an)) else (
bif ((IntKind.wrap .u64 ((E6 .u64 a (7))-(4)))==(2)) then (
Xz k fun ao=>
some (ao)) else (
pZ e k fun ap=>
some (ap)))) else (
(Cp e e).bind fun l=>
bif ((E6 .u64 a (7))==(1)) then (
Xz l fun aq=>
some (I0 aq)) else (
bif ((E6 .u64 a (7))==(2)) then (
Xz l fun ar=>
some (I0 ar)) else (
pZ e l fun au=>
some (I0 au))))))) else (
bif (fGe c 4737786807993761792) then (
none) else (
(Cp c 4608412980311869571).bind fun av=>
(Tu .u64 av).bind fun b=>
bif ((E6 .u64 b (1))==(1)) then (
(D6 (Kp b) 4607182418800017408).bind fun m=>
(Cp m 4605249456957292544).bind fun aw=>
(F1 c aw).bind fun ax=>
(Cp m 4495793288086814720).bind fun ay=>
(F1 ax ay).bind fun az=>
(Cp m 4388835458085048688).bind fun ba=>
(F1 az ba).bind fun f=>
bif (decide ((E6 .u64 (IntKind.wrap .u64 (b+(1))) (7))>(3))) then (
(Cp f f).bind fun o=>
bif ((IntKind.wrap .u64 ((E6 .u64 (IntKind.wrap .u64 (b+(1))) (7))-(4)))==(1)) then (
Xz o fun bb=>
some (I0 bb)) else (
bif ((IntKind.wrap .u64 ((E6 .u64 (IntKind.wrap .u64 (b+(1))) (7))-(4)))==(2)) then (
Xz o fun bc=>
some (I0 bc)) else (
pZ f o fun bd=>
some (I0 bd)))) else (
(Cp f f).bind fun p=>
bif ((E6 .u64 (IntKind.wrap .u64 (b+(1))) (7))==(1)) then (
Xz p fun be=>
some (be)) else (
bif ((E6 .u64 (IntKind.wrap .u64 (b+(1))) (7))==(2)) then (
Xz p fun bf=>
some (bf)) else (
pZ f p fun bg=>
some (bg))))) else (
(Cp (Kp b) 4605249456957292544).bind fun bh=>
(F1 c bh).bind fun bi=>
(Cp (Kp b) 4495793288086814720).bind fun bj=>
(F1 bi bj).bind fun bk=>
(Cp (Kp b) 4388835458085048688).bind fun bl=>
(F1 bk bl).bind fun g=>
bif (decide ((E6 .u64 b (7))>(3))) then (
(Cp g g).bind fun q=>
bif ((IntKind.wrap .u64 ((E6 .u64 b (7))-(4)))==(1)) then (
Xz q fun bm=>
some (I0 bm)) else (
bif ((IntKind.wrap .u64 ((E6 .u64 b (7))-(4)))==(2)) then (
Xz q fun bn=>
some (I0 bn)) else (
pZ g q fun bo=>
some (I0 bo)))) else (
(Cp g g).bind fun r=>
bif ((E6 .u64 b (7))==(1)) then (
Xz r fun bp=>
some (bp)) else (
bif ((E6 .u64 b (7))==(2)) then (
Xz r fun bq=>
some (bq)) else (
pZ g r fun br=>
some (br))))))))))
abbrev xN:=(Nat)
def qX (n a:Nat):Option xN:=
(mP n a).bind fun b=>
some (b)
abbrev yC:=(Nat)
def pC (n a:Nat):Option yC:=
(Yx .u64 (a:Int) (52)).bind fun b=>
bif (decide ((E6 .u64 b (2047))<(1023))) then (
bif ((E6 .u64 b (2047))==(1022)) then (
some (Int.toNat (bOr .u64 (E6 .u64 (a:Int) (9223372036854775808)) (4607182418800017408)))) else (
some (Int.toNat (E6 .u64 (a:Int) (9223372036854775808))))) else (
bif (decide ((E6 .u64 b (2047))<(1075))) then (
(Yx .u64 (2251799813685248) (IntKind.wrap .u64 ((E6 .u64 b (2047))-(1023)))).bind fun c=>
(Yx .u64 (4503599627370495) (IntKind.wrap .u64 ((E6 .u64 b (2047))-(1023)))).bind fun d=>
some (Int.toNat (Ho .u64 (IntKind.wrap .u64 ((a:Int)+c)) d))) else (
some (Int.toNat (a:Int))))
abbrev zB:=(Int)
def bM (n:Nat) (a:Int):Option zB:=
(O5 n a).bind fun b=>
(Cp (Kp b) 4614256656552045848).bind fun c=>
(Jy c 4656722014701092864).bind fun d=>
(qX n d).bind fun e=>
(Cp 4670232813583204352 e).bind fun f=>
(pC n f).bind fun g=>
(Tu .i64 g).bind fun h=>
some (h)
abbrev qJ:=(Int)
def bO (n:Nat) (a:Int):Option qJ:=
(O5 n a).bind fun b=>
(bM n (IntKind.wrap .i64 (b+(1024)))).bind fun c=>
some (c)
abbrev yS:=(Bool)
def sT (n a:Nat):Option yS:=
some (decide ((IntKind.wrap .i64 (a:Int))<(0)))
abbrev zN:=(Nat)
def P8 (n a b:Nat):Option zN:=
some (Int.toNat (bOr .u64 (Ho .u64 (a:Int) (9223372036854775808)) (E6 .u64 (b:Int) (9223372036854775808))))
abbrev vC:=(Nat)
def eI (n b:Nat):Option vC:=
(Cp b b).bind fun a=>
(Cp 13829429103926125972 a).bind fun c=>
(D6 c 13848613196940411002).bind fun d=>
(Cp d a).bind fun e=>
(D6 e 13858350711815275123).bind fun f=>
(Cp f a).bind fun g=>
(D6 g 13861719834326579749).bind fun h=>
(Cp h a).bind fun i=>
(D6 i 13857635882265799822).bind fun j=>
(Cp a j).bind fun k=>
(D6 a 4627690253511319612).bind fun l=>
(Cp l a).bind fun m=>
(D6 m 4640010388282866213).bind fun o=>
(Cp o a).bind fun p=>
(D6 p 4646322940342877755).bind fun q=>
(Cp q a).bind fun r=>
(D6 r 4647246694406179306).bind fun s=>
(Cp s a).bind fun t=>
(D6 t 4641049159275471596).bind fun u=>
(Jy k u).bind fun v=>
(Cp b v).bind fun w=>
(D6 w b).bind fun x=>
some (x)
abbrev tK:=(Nat)
def jO (n a:Nat):Option tK:=
bif (fLe a 4604119971053405471) then (
(eI n a).bind fun b=>
some (b)) else (
bif (aO a 4612618744449965542) then (
(Jy 4607182418800017408 a).bind fun c=>
(eI n c).bind fun d=>
(F1 4609753056924675352 d).bind fun e=>
(D6 e 4364452196894661639).bind fun f=>
some (f)) else (
(F1 a 4607182418800017408).bind fun g=>
(D6 a 4607182418800017408).bind fun h=>
(Jy g h).bind fun i=>
(eI n i).bind fun j=>
(D6 4605249457297304856 j).bind fun k=>
(D6 k 4359948597267291143).bind fun l=>
some (l)))
abbrev xV:=(Nat)
def Aax (n a:Nat):Option xV:=
bif (nE a 0) then (
some (a)) else (
bif (aO a 0) then (
(jO n a).bind fun b=>
some (b)) else (
(jO n (I0 a)).bind fun c=>
some (I0 c)))
abbrev rK:=(Nat)
def nT (n a:Nat):Option rK:=
(Aax n a).bind fun b=>
some (b)
abbrev Aar:=(Nat)
def zC (n a b:Nat):Option Aar:=
(Wp n a).bind fun d=>
bif d then (
(pN n).bind fun e=>
some (e)) else (
(Wp n b).bind fun f=>
bif f then (
(pN n).bind fun g=>
some (g)) else (
bif (nE a 0) then (
bif (fGe b 0) then (
(sT n b).bind fun h=>
bif (!h) then (
(P8 n 0 a).bind fun i=>
some (i)) else (
(P8 n 4614256656552045848 a).bind fun j=>
some (j))) else (
(P8 n 4614256656552045848 a).bind fun k=>
some (k))) else (
bif (nE b 0) then (
(P8 n 4609753056924675352 a).bind fun l=>
some (l)) else (
(Si n b (0)).bind fun m=>
bif m then (
(Si n b (1)).bind fun o=>
bif o then (
(Si n a (0)).bind fun p=>
bif p then (
(P8 n 4605249457297304856 a).bind fun q=>
some (q)) else (
(P8 n 0 a).bind fun r=>
some (r))) else (
(Si n a (0)).bind fun s=>
bif s then (
(P8 n 4612488097114038738 a).bind fun t=>
some (t)) else (
(P8 n 4614256656552045848 a).bind fun u=>
some (u)))) else (
(Si n a (0)).bind fun v=>
bif v then (
(P8 n 4609753056924675352 a).bind fun w=>
some (w)) else (
(Jy a b).bind fun x=>
(nT n x).bind fun c=>
bif (fLt b 0) then (
bif (fLe c 0) then (
(D6 c 4614256656552045848).bind fun y=>
some (y)) else (
(F1 c 4614256656552045848).bind fun z=>
some (z))) else (
some (c))))))))
abbrev zQ:=(Nat)
def eM (n a b:Nat):Option zQ:=
(zC n a b).bind fun c=>
some (c)
abbrev rX:=(Nat)
def jQ (n a:Nat):Option rX:=
(Rs a).bind fun b=>
some (b)
abbrev vF:=(TP)
def Sk (n:Nat) (a:Int):Option vF:=
(bM n a).bind fun b=>
(bO n a).bind fun c=>
some (⟨b,c⟩:TP)
abbrev zS:=(Int)
def Tx (n:Nat) (a b:TP):Option zS:=
some (IntKind.wrap .i64 ((IntKind.wrap .i64 (a.Y*b.X))-(IntKind.wrap .i64 (a.X*b.Y))))
abbrev bD:=(Int×Int)
def M6 (n:Nat) (r h b c a:Int):Option ((Int)⊕bD):=
bif (decide (a<(4096))) then (
(O5 n (IntKind.wrap .i64 (h+a))).bind fun d=>
bif ((Int.tmod a (2))==(1)) then (
(O5 n (IntKind.wrap .i64 (h-a))).bind fun e=>
(Sk n e).bind fun f=>
(Sk n (IntKind.wrap .i64 (e+(1)))).bind fun m=>
(Tx n f (⟨b,c⟩:TP)).bind fun i=>
(Tx n (⟨b,c⟩:TP) m).bind fun j=>
bif (decide (i≥(0))) then (
bif (decide (j>(0))) then (
bif (decide ((IntKind.wrap .i64 ((IntKind.wrap .i64 (f.X*b))+(IntKind.wrap .i64 (f.Y*c))))>(0))) then (
bif (decide (i≤j)) then (
some (.inr (e,(0)))) else (
(O5 n (IntKind.wrap .i64 (e+(1)))).bind fun o=>
some (.inr (o,(0))))) else (
some (.inl (IntKind.wrap .i64 (a+(1)))))) else (
some (.inl (IntKind.wrap .i64 (a+(1)))))) else (
some (.inl (IntKind.wrap .i64 (a+(1)))))) else (
(Sk n d).bind fun g=>
(Sk n (IntKind.wrap .i64 (d+(1)))).bind fun p=>
(Tx n g (⟨b,c⟩:TP)).bind fun k=>
(Tx n (⟨b,c⟩:TP) p).bind fun l=>
bif (decide (k≥(0))) then (
bif (decide (l>(0))) then (
bif (decide ((IntKind.wrap .i64 ((IntKind.wrap .i64 (g.X*b))+(IntKind.wrap .i64 (g.Y*c))))>(0))) then (
bif (decide (k≤l)) then (
some (.inr (d,(0)))) else (
(O5 n (IntKind.wrap .i64 (d+(1)))).bind fun q=>
some (.inr (q,(0))))) else (
some (.inl (IntKind.wrap .i64 (a+(1)))))) else (
some (.inl (IntKind.wrap .i64 (a+(1)))))) else (
some (.inl (IntKind.wrap .i64 (a+(1))))))) else (
some (.inr ((0),(0))))
def nP (n:Nat) (a:TP):Option bD:=
bif (decide (a.X<(-2000000))) then (
some ((0),(4))) else (
bif (decide (a.X>(2000000))) then (
some ((0),(4))) else (
bif (decide (a.Y<(-2000000))) then (
some ((0),(4))) else (
bif (decide (a.Y>(2000000))) then (
some ((0),(4))) else (
bif (a.X==(0)) then (
bif (a.Y==(0)) then (
some ((0),(10))) else (
(eM n (Kp a.X) (Kp a.Y)).bind fun b=>
(Cp b 4656722014701092864).bind fun c=>
(Jy c 4614256656552045848).bind fun d=>
(jQ n d).bind fun e=>
(Tu .i64 e).bind fun f=>
Bw (fun y:Int=>M6 n (0) f a.X a.Y y) n (0))) else (
(eM n (Kp a.X) (Kp a.Y)).bind fun g=>
(Cp g 4656722014701092864).bind fun h=>
(Jy h 4614256656552045848).bind fun i=>
(jQ n i).bind fun j=>
(Tu .i64 j).bind fun k=>
Bw (fun y:Int=>M6 n (0) k a.X a.Y y) n (0))))))
abbrev Afk:=Int
def S8 (a b:Int):Option Int:=(Ky (IntKind.wrap .i64 (a+IntKind.wrap .i64 (Int.tdiv b 2))) b).bind fun q=>some (IntKind.wrap .i64 q)
def iT (n:Nat) (a b:Int):Option Afk:=
bif decide (a<0) then (bif decide (IntKind.wrap .i64 (0-a)<0) then none else (S8 (IntKind.wrap .i64 (0-a)) b).bind fun z=>some (IntKind.wrap .i64 (0-z))) else S8 a b
abbrev yD:=(TP×Int)
def nL (n:Nat) (b a:Int):Option yD:=
bif (decide (a<(0))) then (
some ((⟨0,0⟩:TP),(4))) else (
bif (decide (a>(2000000))) then (
some ((⟨0,0⟩:TP),(4))) else (
(bM n b).bind fun c=>
(iT n (IntKind.wrap .i64 (a*c)) (16384)).bind fun d=>
(bO n b).bind fun e=>
(iT n (IntKind.wrap .i64 (a*e)) (16384)).bind fun f=>
some ((⟨d,f⟩:TP),(0))))
abbrev Aht:=(Bool)
def xC (n:Nat) (a:List Ab) (b:Int):Option Aht:=
(Kg n a).bind fun c=>
bif (c !=(0)) then (
some (true)) else (
(Ch a (IntKind.wrap .i64 ((a.length:Int)-(1)))).bind fun d=>
(Ch a (0)).bind fun e=>
some (decide ((IntKind.wrap .i64 (d.Ac-e.Ac))>b)))
abbrev bY:=(Int)
def Mx (n:Nat) (b:List (List Ab)) (c f c7 a:Int):Option ((Int)⊕bY):=
bif (decide (a<c7)) then (
(Ch b a).bind fun d=>
(xC n d c).bind fun e=>
bif e then (
some (.inr (a))) else (
some (.inl (IntKind.wrap .i64 (a+(1)))))) else (
some (.inr (-1)))
def oD (n:Nat) (a:List (List Ab)) (b:Int):Option bY:=
Bw (fun y:Int=>Mx n a b (0) (a.length:Int) y) n (0)
abbrev Ahe:=(Bool)
def g40 (n:Nat) (a:List (List Ab)) (b:Int):Option Ahe:=
(oD n a b).bind fun c=>
some (decide (c≥(0)))
abbrev ρ5:=(Bool)
def g5 (n:Nat) (a:List (List Ab)) (b c:Int):Option ρ5:=
bif (decide ((a.length:Int)≤b)) then (
(g40 n a c).bind fun d=>
some (!d)) else (
some (false))
abbrev sZ:=(Int)
def Nv (n:Nat) (b:List (List Ab)) (c c6 e a:Int):Option ((Int)⊕sZ):=
bif (decide (a<e)) then (
(Ch b a).bind fun f=>
(Kg n f).bind fun d=>
bif (d !=(0)) then (
some (.inr (d))) else (
some (.inl (IntKind.wrap .i64 (a+(1)))))) else (
bif (decide (c<(0))) then (
some (.inr (4))) else (
bif (decide (c≥(b.length:Int))) then (
some (.inr (4))) else (
some (.inr (0)))))
def g43 (n:Nat) (a:List (List Ab)) (c:Int) (d:Db):Option sZ:=
(gB n d).bind fun b=>
bif (b !=(0)) then (
some (b)) else (
bif (decide ((a.length:Int)>(24))) then (
some (2)) else (
Bw (fun y:Int=>Nv n a c (0) (a.length:Int) y) n (0)))
abbrev Aav:=(Bool)
def Mt (n:Nat) (e:Bool) (c:List UInt8) (d a:Int):Option ((Int)⊕Aav):=
bif (decide (a<d)) then (
(Ch c a).bind fun b=>
bif (decide ((b.toNat:Int)≥(65))) then (
bif (decide ((b.toNat:Int)≤(90))) then (
some (.inl (IntKind.wrap .i64 (a+(1))))) else (
bif (decide (a>(0))) then (
bif (decide ((b.toNat:Int)≥(48))) then (
bif (!(decide ((b.toNat:Int)≤(57)))) then (
some (.inr (false))) else (
some (.inl (IntKind.wrap .i64 (a+(1)))))) else (
some (.inr (false)))) else (
some (.inr (false))))) else (
bif (decide (a>(0))) then (
bif (decide ((b.toNat:Int)≥(48))) then (
bif (!(decide ((b.toNat:Int)≤(57)))) then (
some (.inr (false))) else (
some (.inl (IntKind.wrap .i64 (a+(1)))))) else (
some (.inr (false)))) else (
some (.inr (false))))) else (
some (.inr (true)))
def g77 (n:Nat) (a:ByteArray):Option Aav:=
bif (decide ((a.size:Int)<(1))) then (
some (false)) else (
bif (decide ((a.size:Int)>(8))) then (
some (false)) else (
(D0 a.size 1).bind fun b=>
Bw (fun y:Int=>Mt n false (a.data.toList) ((a.data.toList).length:Int) y) n (0)))
abbrev sB:=(Bool)
def We (n:Nat) (a b:Int):Option sB:=
bif (decide (a<(1))) then (
some (true)) else (
some (decide (a>b)))
abbrev Ai2:=(Int)
def o9 (n:Nat) (a:Dg):Option Ai2:=
(g77 n a.Name).bind fun b=>
bif (!b) then (
some (5)) else (
bif (decide (a.Fa<(0))) then (
some (1)) else (
bif (decide (a.Fa>(3))) then (
some (1)) else (
(We n a.B8 (60000)).bind fun c=>
bif c then (
some (4)) else (
(We n a.C5 (200)).bind fun d=>
bif d then (
some (4)) else (
(We n a.Cb (200)).bind fun e=>
bif e then (
some (4)) else (
(We n a.Eg (400)).bind fun f=>
bif f then (
some (4)) else (
(We n a.Eh (400)).bind fun g=>
bif g then (
some (4)) else (
bif (decide (a.Eg>a.Eh)) then (
some (3)) else (
some (0))))))))))
abbrev dF:=(Int)
def K0 (n:Nat) (b:List ByteArray) (c:ByteArray) (e c7 a:Int):Option ((Int)⊕dF):=
bif (decide (a<c7)) then (
(Ch b a).bind fun d=>
bif ((c).toList==(d).toList) then (
some (.inr (a))) else (
some (.inl (IntKind.wrap .i64 (a+(1)))))) else (
some (.inr (-1)))
def mU (n:Nat) (a:List ByteArray) (b:ByteArray):Option dF:=
Bw (fun y:Int=>K0 n a b (0) (a.length:Int) y) n (0)
abbrev tV:=(Int)
def Zs (n:Nat) (a:ByteArray):Option tV:=
(mU n ([(⟨#[72,69,73,71,72,84]⟩:ByteArray),(⟨#[72,69,65,68,73,78,71]⟩:ByteArray),(⟨#[83,80,69,69,68]⟩:ByteArray),(⟨#[68,73,82,69,67,84]⟩:ByteArray),(⟨#[72,79,76,68]⟩:ByteArray),(⟨#[67,79,78,84,65,67,84]⟩:ByteArray),(⟨#[76,65,78,68]⟩:ByteArray)]:List ByteArray) a).bind fun b=>
some (b)
abbrev xB:=(Bool)
def Su (n:Nat) (a:ByteArray):Option xB:=
(g77 n a).bind fun b=>
bif b then (
(Zs n a).bind fun c=>
some (decide (c<(0)))) else (
some (false))
abbrev Ak4:=(Int)
def Po (n:Nat) (a:Ae):Option Ak4:=
(Su n a.Call).bind fun b=>
bif (!b) then (
some (3)) else (
bif (decide (a.Kind<(0))) then (
some (1)) else (
bif (decide (a.Kind>(6))) then (
some (1)) else (
bif (decide (a.Kind>(2))) then (
bif (a.Value !=(0)) then (
some (3)) else (
(Su n a.Fix).bind fun c=>
bif (!c) then (
some (3)) else (
some (0)))) else (
bif (!((a.Fix).toList==((⟨#[]⟩:ByteArray)).toList)) then (
some (3)) else (
bif (decide (a.Value<(0))) then (
some (4)) else (
(Ch ([60000,4095,400]:List Int) a.Kind).bind fun d=>
bif (decide (a.Value>d)) then (
some (4)) else (
some (0))))))))
abbrev fY:=(Int×Int×Bool)
def Um (n:Nat) (l:Int) (c6:Bool) (g:List Ab) (h c d e m o p b:Int):Option ((Int)⊕fY):=
bif (decide (b<h)) then (
(Ch g b).bind fun a=>
bif (decide (a.Ac>c)) then (
(bP n (⟨a.Ak,a.Aj⟩:TP) (⟨d,e⟩:TP)).bind fun i=>
(nP n i).bind fun f=>
(Mf n (⟨d,e⟩:TP) (⟨a.Ak,a.Aj⟩:TP)).bind fun j=>
(Ky j.1 (IntKind.wrap .i64 (a.Ac-c))).bind fun k=>
some (.inr (f.1,IntKind.wrap .i64 k,(f.2==(0))))) else (
some (.inl (IntKind.wrap .i64 (b+(1)))))) else (
some (.inr ((0),0,false)))
def uX (n:Nat) (b:List Ab) (a:Ab):Option fY:=
Bw (fun y:Int=>Um n (0) false b (b.length:Int) a.Ac a.Ak a.Aj a.Af a.Aw a.Bi y) n (0)
abbrev U9:=((List Ae)×Int)
def Lr (n:Nat) (c9 h Is:Int) (Mh:Bool) (e M3 f:Int) (i:ByteArray) (j k l m o p q r s t u v b:Int) (c:List Ae) (a:ByteArray):Option ((Int×List Ae×ByteArray)⊕((Int×List Ae×ByteArray)⊕U9)):=
bif (decide (b<(2))) then (
(Ch ([M3,f]:List Int) b).bind fun g=>
(O5 n g).bind fun d=>
(D0 (c.length+([(⟨a,1,d,(⟨#[]⟩:ByteArray)⟩:Ae)]:List Ae).length) 48).bind fun w=>
some (.inl ((IntKind.wrap .i64 (b+(1))),c++([(⟨a,1,d,(⟨#[]⟩:ByteArray)⟩:Ae)]:List Ae),a))) else (
some (.inr (.inl ((IntKind.wrap .i64 (e+(1))),c,a))))
def Ln (n:Nat) (c9 e Is:Int) (Mh:Bool) (f i j:Int) (k:ByteArray) (l m o p g h q r s t u v b:Int) (c:List Ae) (a:ByteArray):Option ((Int×List Ae×ByteArray)⊕((Int×List Ae×ByteArray)⊕U9)):=
bif (decide (b<(2))) then (
(Ch ([i,j]:List Int) b).bind fun d=>
bif (decide (d≥g)) then (
bif (decide (d≤h)) then (
(D0 (c.length+([(⟨a,2,d,(⟨#[]⟩:ByteArray)⟩:Ae)]:List Ae).length) 48).bind fun w=>
some (.inl ((IntKind.wrap .i64 (b+(1))),c++([(⟨a,2,d,(⟨#[]⟩:ByteArray)⟩:Ae)]:List Ae),a))) else (
some (.inl ((IntKind.wrap .i64 (b+(1))),c,a)))) else (
some (.inl ((IntKind.wrap .i64 (b+(1))),c,a)))) else (
((Bw (fun y:Int×List Ae×ByteArray=>Lr n c9 e Is Mh f (IntKind.wrap .i64 (e+(IntKind.wrap .i64 ((171)*f)))) (IntKind.wrap .i64 (e-(IntKind.wrap .i64 ((171)*f)))) k l m o p g h q r s t u v y.1 y.2.1 y.2.2) n ((0),c,a)).map Sum.inr))
def Ki (n:Nat) (c9 g Is:Int) (Mh:Bool) (d h i:Int) (j:ByteArray) (k f l m o p q r s t u v c:Int) (b:List Ae) (a:ByteArray):Option ((Int×List Ae×ByteArray)⊕((Int×List Ae×ByteArray)⊕U9)):=
bif (decide (c<(2))) then (
(Ch ([h,i]:List Int) c).bind fun e=>
bif (decide (e≥(0))) then (
bif (decide (e≤f)) then (
(D0 (b.length+([(⟨a,0,e,(⟨#[]⟩:ByteArray)⟩:Ae)]:List Ae).length) 48).bind fun w=>
some (.inl ((IntKind.wrap .i64 (c+(1))),b++([(⟨a,0,e,(⟨#[]⟩:ByteArray)⟩:Ae)]:List Ae),a))) else (
some (.inl ((IntKind.wrap .i64 (c+(1))),b,a)))) else (
some (.inl ((IntKind.wrap .i64 (c+(1))),b,a)))) else (
bif (!Mh) then (
some (.inr (.inl ((IntKind.wrap .i64 (d+(1))),b,a)))) else (
((Bw (fun y:Int×List Ae×ByteArray=>Ln n c9 g Is Mh d (IntKind.wrap .i64 (Is+(IntKind.wrap .i64 ((15)*d)))) (IntKind.wrap .i64 (Is-(IntKind.wrap .i64 ((15)*d)))) j k f l m o p q r s t u v y.1 y.2.1 y.2.2) n ((0),b,a)).map Sum.inr)))
def Vc (n:Nat) (c9 d Is:Int) (Mh:Bool) (e:ByteArray) (f g h i j k l m o b p q a:Int) (c:List Ae) (r:ByteArray):Option ((Int×List Ae×ByteArray)⊕U9):=
bif (decide (a≤(3))) then (
Bw (fun y:Int×List Ae×ByteArray=>Ki n c9 d Is Mh a (IntKind.wrap .i64 (b+(IntKind.wrap .i64 ((1000)*a)))) (IntKind.wrap .i64 (b-(IntKind.wrap .i64 ((1000)*a)))) e f g h i j k l m o b p q y.1 y.2.1 y.2.2) n ((0),c,r)) else (
some (.inr (c,(0))))
def g44 (n:Nat) (e:ByteArray) (c:List Ab) (i:Int) (b:Dg):Option U9:=
(Kg n c).bind fun f=>
bif (f !=(0)) then (
some ([],f)) else (
(o9 n b).bind fun g=>
bif (g !=(0)) then (
some ([],g)) else (
(S0 n c i).bind fun a=>
bif (a.2 !=(0)) then (
some ([],a.2)) else (
(Po n (⟨e,0,0,(⟨#[]⟩:ByteArray)⟩:Ae)).bind fun h=>
bif (h !=(0)) then (
some ([],h)) else (
(uX n c a.1).bind fun d=>
Bw (fun y:Int×List Ae×ByteArray=>Vc n (0) d.1 d.2.1 d.2.2 b.Name b.Fa b.B8 b.C5 b.Cb b.Eg b.Eh a.1.Ac a.1.Ak a.1.Aj a.1.Af a.1.Aw a.1.Bi y.1 y.2.1 y.2.2) n ((1),[],e)))))
abbrev zE:=(Bool)
def Qk (n:Nat) (b:Int) (c:List Ab) (c8:Bool) (d:List (List Ab)) (e f g a:Int):Option ((Int)⊕zE):=
bif (decide (a<e)) then (
(Ch d a).bind fun h=>
bif (a !=b) then (
(w9 n c h (⟨f,g⟩:Db)).bind fun i=>
bif (i.2==(0)) then (
some (.inr (false))) else (
some (.inl (IntKind.wrap .i64 (a+(1)))))) else (
some (.inl (IntKind.wrap .i64 (a+(1)))))) else (
some (.inr (true)))
def g45 (n:Nat) (a:List (List Ab)) (c:Int) (d:List Ab) (b:Db):Option zE:=
Bw (fun y:Int=>Qk n c d false a (a.length:Int) b.Bf b.A9 y) n (0)
abbrev Ahn:=(Int)
def g54 (n:Nat) (a:List Ab):Option Ahn:=
(Kg n a).bind fun b=>
some (b)
abbrev Akg:=(Int)
def g55 (n:Nat) (a:ByteArray) (b c:Int) (d:ByteArray):Option Akg:=
(Po n (⟨a,b,c,d⟩:Ae)).bind fun e=>
some (e)
abbrev Ahl:=(Int)
def g56 (n:Nat) (a:ByteArray) (b c d e f g:Int):Option Ahl:=
(o9 n (⟨a,b,c,d,e,f,g⟩:Dg)).bind fun h=>
some (h)
abbrev Ajb:=(Int)
def g58 (n:Nat) (a b:Int):Option Ajb:=
(Ty n (⟨a,b⟩:TP)).bind fun c=>
some (c)
abbrev vI:=(Int×Int)
def aM (n:Nat) (c:Dg) (a b:Int):Option vI:=
(o9 n c).bind fun d=>
bif (d !=(0)) then (
some ((0),d)) else (
bif (decide (a<(0))) then (
some ((0),(4))) else (
bif (decide (a>(60000))) then (
some ((0),(4))) else (
bif (decide (b<(0))) then (
some ((0),(4))) else (
bif (decide (b>(60000))) then (
some ((0),(4))) else (
bif (decide (a>c.B8)) then (
some ((0),(20))) else (
bif (decide (b>c.B8)) then (
some ((0),(20))) else (
bif (decide (b≥a)) then (
(Me n (IntKind.wrap .i64 (b-a)) c.C5).bind fun e=>
some (e.1,e.2)) else (
(Me n (IntKind.wrap .i64 (a-b)) c.Cb).bind fun f=>
some (f.1,f.2)))))))))
abbrev qG:=(Bool)
def sH (n:Nat) (a:Ab) (b:Int):Option qG:=
some (decide (a.Ac≥b))
abbrev eQ:=(Int)
def Sl (n:Nat) (b:List Ab) (c f c7 a:Int):Option ((Int)⊕eQ):=
bif (decide (a<c7)) then (
(Ch b a).bind fun d=>
(sH n d c).bind fun e=>
bif e then (
some (.inr (a))) else (
some (.inl (IntKind.wrap .i64 (a+(1)))))) else (
some (.inr (-1)))
def nG (n:Nat) (a:List Ab) (b:Int):Option eQ:=
Bw (fun y:Int=>Sl n a b (0) (a.length:Int) y) n (0)
abbrev cD:=((List Ab)×Int)
def Jz (n:Nat) (c3 f g:Int) (k:ByteArray) (l d:Int) (m:ByteArray) (o p:List Ab) (h q r e s t:Int) (u:ByteArray) (v w x y z aa ab ad:Int) (ae:List Ab) (i b:Int) (c:List Ab):Option ((Int×List Ab)⊕cD):=
bif (decide (b<g)) then (
(Ch c b).bind fun a=>
bif (decide (a.Ac≥i)) then (
some (.inl ((IntKind.wrap .i64 (b+(1))),(c.set ((b:Int).toNat) (⟨a.Ac,a.Ak,a.Aj,d,a.Aw,a.Bi⟩:Ab))))) else (
(O3 n (IntKind.wrap .i64 ((IntKind.wrap .i64 (d-e))*(IntKind.wrap .i64 (a.Ac-h)))) f).bind fun j=>
some (.inl ((IntKind.wrap .i64 (b+(1))),(c.set ((b:Int).toNat) (⟨a.Ac,a.Ak,a.Aj,IntKind.wrap .i64 (e+j.1),a.Aw,a.Bi⟩:Ab)))))) else (
some (.inr (c,(0))))
def Tv (n:Nat) (a:Fs):Option cD:=
(aM n (⟨a.B2,a.B1,a.Bc,a.Bp,a.Bb,a.Bu,a.Bt⟩:Dg) a.Au a.Am).bind fun b=>
bif (b.2 !=(0)) then (
some ([],b.2)) else (
(D0 a.later.length 48).bind fun h=>
bif (decide (b.1>(0))) then (
bif (decide ((a.later.length:Int)>(0))) then (
(Ch a.later (IntKind.wrap .i64 ((a.later.length:Int)-(1)))).bind fun e=>
bif (decide ((IntKind.wrap .i64 (a.Ap+b.1))<e.Ac)) then (
(nG n a.later (IntKind.wrap .i64 (a.Ap+b.1))).bind fun c=>
(Ch a.later c).bind fun f=>
bif (f.Ac !=(IntKind.wrap .i64 (a.Ap+b.1))) then (
(S0 n a.whole (IntKind.wrap .i64 (a.Ap+b.1))).bind fun g=>
(jM 48 a.later c ([g.1]:List Ab)).bind fun d=>
Bw (fun y:Int×List Ab=>Jz n (0) b.1 (d.length:Int) a.Av a.Aq a.Am a.Ay a.before a.later a.Ap a.A6 a.A5 a.Au a.Bj a.B9 a.B2 a.B1 a.Bc a.Bp a.Bb a.Bu a.Bt a.Dj a.Dp a.whole (IntKind.wrap .i64 (a.Ap+b.1)) y.1 y.2) n ((0),d)) else (
Bw (fun y:Int×List Ab=>Jz n (0) b.1 (a.later.length:Int) a.Av a.Aq a.Am a.Ay a.before a.later a.Ap a.A6 a.A5 a.Au a.Bj a.B9 a.B2 a.B1 a.Bc a.Bp a.Bb a.Bu a.Bt a.Dj a.Dp a.whole (IntKind.wrap .i64 (a.Ap+b.1)) y.1 y.2) n ((0),a.later))) else (
Bw (fun y:Int×List Ab=>Jz n (0) b.1 (a.later.length:Int) a.Av a.Aq a.Am a.Ay a.before a.later a.Ap a.A6 a.A5 a.Au a.Bj a.B9 a.B2 a.B1 a.Bc a.Bp a.Bb a.Bu a.Bt a.Dj a.Dp a.whole (IntKind.wrap .i64 (a.Ap+b.1)) y.1 y.2) n ((0),a.later))) else (
Bw (fun y:Int×List Ab=>Jz n (0) b.1 (a.later.length:Int) a.Av a.Aq a.Am a.Ay a.before a.later a.Ap a.A6 a.A5 a.Au a.Bj a.B9 a.B2 a.B1 a.Bc a.Bp a.Bb a.Bu a.Bt a.Dj a.Dp a.whole (IntKind.wrap .i64 (a.Ap+b.1)) y.1 y.2) n ((0),a.later))) else (
Bw (fun y:Int×List Ab=>Jz n (0) b.1 (a.later.length:Int) a.Av a.Aq a.Am a.Ay a.before a.later a.Ap a.A6 a.A5 a.Au a.Bj a.B9 a.B2 a.B1 a.Bc a.Bp a.Bb a.Bu a.Bt a.Dj a.Dp a.whole (IntKind.wrap .i64 (a.Ap+b.1)) y.1 y.2) n ((0),a.later)))
abbrev qD:=(Int)
def iD (n:Nat) (a:Fs):Option qD:=
(Ch a.later (0)).bind fun b=>
(Mf n (⟨a.A6,a.A5⟩:TP) (⟨b.Ak,b.Aj⟩:TP)).bind fun c=>
(Ch a.later (0)).bind fun d=>
(Ky c.1 (IntKind.wrap .i64 (d.Ac-a.Ap))).bind fun e=>
some (IntKind.wrap .i64 e)
abbrev vM:=(TP)
def yL (n:Nat) (a b:TP):Option vM:=
some (⟨IntKind.wrap .i64 (a.X+b.X),IntKind.wrap .i64 (a.Y+b.Y)⟩:TP)
abbrev dT:=((List Ab)×Int)
def Pm (n:Nat) (c3 Wm:Int) (l:ByteArray) (m f:Int) (o:ByteArray) (p q:List Ab) (g h i r s t:Int) (u:ByteArray) (v w x y z aa ab ad:Int) (ae:List Ab) (b:Int) (c:List Ab):Option ((Int×List Ab)⊕dT):=
bif (decide (b<Wm)) then (
(iD n (⟨l,m,f,o,p,q,g,h,i,r,s,t,u,v,w,x,y,z,aa,ab,ad,ae⟩:Fs)).bind fun af=>
(Ch c b).bind fun ag=>
(nL n f (IntKind.wrap .i64 (af*(IntKind.wrap .i64 (ag.Ac-g))))).bind fun e=>
bif (e.2 !=(0)) then (
some (.inr ([],e.2))) else (
(yL n (⟨h,i⟩:TP) e.1).bind fun d=>
(Ch c b).bind fun a=>
(Ch (c.set ((b:Int).toNat) (⟨a.Ac,d.X,d.Y,a.Af,a.Aw,a.Bi⟩:Ab)) b).bind fun j=>
(Ty n (⟨j.Ak,j.Aj⟩:TP)).bind fun k=>
bif (k !=(0)) then (
some (.inr ([],k))) else (
some (.inl ((IntKind.wrap .i64 (b+(1))),(c.set ((b:Int).toNat) (⟨a.Ac,d.X,d.Y,a.Af,a.Aw,a.Bi⟩:Ab))))))) else (
some (.inr (c,(0))))
def pK (n:Nat) (a:Fs):Option dT:=
(D0 a.later.length 48).bind fun b=>
Bw (fun y:Int×List Ab=>Pm n (0) (a.later.length:Int) a.Av a.Aq a.Am a.Ay a.before a.later a.Ap a.A6 a.A5 a.Au a.Bj a.B9 a.B2 a.B1 a.Bc a.Bp a.Bb a.Bu a.Bt a.Dj a.Dp a.whole y.1 y.2) n ((0),a.later)
abbrev cG:=((List Ab)×Int)
def Py (n:Nat) (c3 h:Int) (o:ByteArray) (p i:Int) (q:ByteArray) (r s:List Ab) (t u v w x y:Int) (z:ByteArray) (aa ab ad ae af ag ah ai:Int) (aj:List Ab) (b:Int) (c:List Ab) (f j k ak al am:Int):Option ((Int×List Ab×Int×Int×Int×Int×Int×Int)⊕cG):=
bif (decide (b<h)) then (
(Ch c b).bind fun g=>
(Mf n (⟨j,k⟩:TP) (⟨g.Ak,g.Aj⟩:TP)).bind fun l=>
(Me n l.2 i).bind fun d=>
(Ch c b).bind fun a=>
(Ch (c.set ((b:Int).toNat) (⟨IntKind.wrap .i64 (f+(if d.1>(1) then d.1 else (1))),a.Ak,a.Aj,a.Af,a.Aw,a.Bi⟩:Ab)) b).bind fun m=>
bif (decide (m.Ac>(200000))) then (
some (.inr ([],(12)))) else (
(Ch (c.set ((b:Int).toNat) (⟨IntKind.wrap .i64 (f+(if d.1>(1) then d.1 else (1))),a.Ak,a.Aj,a.Af,a.Aw,a.Bi⟩:Ab)) b).bind fun e=>
some (.inl ((IntKind.wrap .i64 (b+(1))),c.set ((b:Int).toNat) (⟨IntKind.wrap .i64 (f+(if d.1>(1) then d.1 else (1))),a.Ak,a.Aj,a.Af,a.Aw,a.Bi⟩:Ab),e.Ac,e.Ak,e.Aj,e.Af,e.Aw,e.Bi)))) else (
some (.inr (c,(0))))
def u7 (n:Nat) (a:Fs):Option cG:=
bif (decide (a.Am<a.Bu)) then (
some ([],(4))) else (
bif (decide (a.Am>a.Bt)) then (
some ([],(4))) else (
(D0 a.later.length 48).bind fun b=>
Bw (fun y:Int×List Ab×Int×Int×Int×Int×Int×Int=>Py n (0) (a.later.length:Int) a.Av a.Aq a.Am a.Ay a.before a.later a.Ap a.A6 a.A5 a.Au a.Bj a.B9 a.B2 a.B1 a.Bc a.Bp a.Bb a.Bu a.Bt a.Dj a.Dp a.whole y.1 y.2.1 y.2.2.1 y.2.2.2.1 y.2.2.2.2.1 y.2.2.2.2.2.1 y.2.2.2.2.2.2.1 y.2.2.2.2.2.2.2) n ((0),a.later,a.Ap,a.A6,a.A5,a.Au,a.Bj,a.B9)))
abbrev rA:=((List Ab)×Int)
def wW (n:Nat) (a:Fs):Option rA:=
(iD n a).bind fun b=>
bif (b==(0)) then (
some ([],(10))) else (
(Mf n (⟨a.A6,a.A5⟩:TP) (⟨a.Dj,a.Dp⟩:TP)).bind fun c=>
bif (c.2==(0)) then (
some ([],(0))) else (
(Me n c.2 b).bind fun d=>
bif (decide ((IntKind.wrap .i64 (a.Ap+d.1))>(200000))) then (
some ([],(12))) else (
some (([(⟨IntKind.wrap .i64 (a.Ap+d.1),a.Dj,a.Dp,a.Au,a.Bj,a.B9⟩:Ab)]:List Ab),(0)))))
abbrev Ako:=((List Ab)×Bool×Int)
def g61 (n:Nat) (a:Fs):Option Ako:=
bif (a.Aq==(0)) then (
(Tv n a).bind fun b=>
some (b.1,false,b.2)) else (
bif ((a.later.length:Int)==(0)) then (
some ([],true,(0))) else (
bif (a.Aq==(1)) then (
(pK n a).bind fun c=>
some (c.1,false,c.2)) else (
bif (a.Aq==(2)) then (
(u7 n a).bind fun d=>
some (d.1,false,d.2)) else (
bif (a.Aq==(3)) then (
(wW n a).bind fun e=>
some (e.1,false,e.2)) else (
some ([],true,(0)))))))
abbrev iA:=((List Ab)×Int)
def U4 (n:Nat) (a2 Kj Is:Int) (a0:List Ab) (c55 ab ad ae af ag ah d:Int) (b c:List Ab) (e:ByteArray) (f g:Int) (h:ByteArray) (i j k l m o:Int) (p:ByteArray) (q r s t u v w x:Int) (y:List Ab):Option ((Int×List Ab×List Ab×ByteArray×Int×Int×ByteArray×Int×Int×Int×Int×Int×Int×ByteArray×Int×Int×Int×Int×Int×Int×Int×Int×List Ab)⊕iA):=
bif (decide (d<c55)) then (
(Ch a0 d).bind fun a=>
bif (decide (a.Ac<a2)) then (
(D0 (b.length+([a]:List Ab).length) 48).bind fun ai=>
bif (decide (a.Ac>a2)) then (
(D0 (c.length+([a]:List Ab).length) 48).bind fun aj=>
some (.inl ((IntKind.wrap .i64 (d+(1))),b++([a]:List Ab),c++([a]:List Ab),e,f,g,h,i,j,k,l,m,o,p,q,r,s,t,u,v,w,x,y))) else (
some (.inl ((IntKind.wrap .i64 (d+(1))),b++([a]:List Ab),c,e,f,g,h,i,j,k,l,m,o,p,q,r,s,t,u,v,w,x,y)))) else (
bif (decide (a.Ac>a2)) then (
(D0 (c.length+([a]:List Ab).length) 48).bind fun ak=>
some (.inl ((IntKind.wrap .i64 (d+(1))),b,c++([a]:List Ab),e,f,g,h,i,j,k,l,m,o,p,q,r,s,t,u,v,w,x,y))) else (
some (.inl ((IntKind.wrap .i64 (d+(1))),b,c,e,f,g,h,i,j,k,l,m,o,p,q,r,s,t,u,v,w,x,y))))) else (
(g61 n (⟨e,f,g,h,b,c,i,j,k,l,m,o,p,q,r,s,t,u,v,w,x,y⟩:Fs)).bind fun z=>
bif (z.2.2 !=(0)) then (
some (.inr ([],z.2.2))) else (
bif z.2.1 then (
(D0 a0.length 48).bind fun al=>
some (.inr (a0,(0)))) else (
(Vb 48 ([b,([(⟨ab,ad,ae,af,ag,ah⟩:Ab)]:List Ab),z.1]:List (List Ab))).bind fun aa=>
bif (decide ((aa.length:Int)>(64))) then (
some (.inr ([],(2)))) else (
some (.inr (aa,(0)))))))
def Jp (n:Nat) (d Kj c28:Int) (c:List Ab) (e:ByteArray) (f g:Int) (h i:ByteArray) (j k l m o p q r b:Int):Option ((Int)⊕iA):=
bif (decide (b<c28)) then (
bif (b==(0:Int)) then (
(g54 n c).bind fun s=>
bif (s !=(0)) then (
some (.inr ([],s))) else (
some (.inl (IntKind.wrap .i64 (b+(1)))))) else (
bif (b==(1:Int)) then (
(g55 n e f g h).bind fun t=>
bif (t !=(0)) then (
some (.inr ([],t))) else (
some (.inl (IntKind.wrap .i64 (b+(1)))))) else (
bif (b==(2:Int)) then (
(g56 n i j k l m o p).bind fun u=>
bif (u !=(0)) then (
some (.inr ([],u))) else (
some (.inl (IntKind.wrap .i64 (b+(1)))))) else (
bif (b==(3:Int)) then (
(g58 n q r).bind fun v=>
bif (v !=(0)) then (
some (.inr ([],v))) else (
some (.inl (IntKind.wrap .i64 (b+(1)))))) else (
none))))) else (
(S0 n c d).bind fun a=>
bif (a.2 !=(0)) then (
some (.inr ([],a.2))) else (
((Bw (fun y:Int×List Ab×List Ab×ByteArray×Int×Int×ByteArray×Int×Int×Int×Int×Int×Int×ByteArray×Int×Int×Int×Int×Int×Int×Int×Int×List Ab=>U4 n d Kj a.2 c (c.length:Int) a.1.Ac a.1.Ak a.1.Aj a.1.Af a.1.Aw a.1.Bi y.1 y.2.1 y.2.2.1 y.2.2.2.1 y.2.2.2.2.1 y.2.2.2.2.2.1 y.2.2.2.2.2.2.1 y.2.2.2.2.2.2.2.1 y.2.2.2.2.2.2.2.2.1 y.2.2.2.2.2.2.2.2.2.1 y.2.2.2.2.2.2.2.2.2.2.1 y.2.2.2.2.2.2.2.2.2.2.2.1 y.2.2.2.2.2.2.2.2.2.2.2.2.1 y.2.2.2.2.2.2.2.2.2.2.2.2.2.1 y.2.2.2.2.2.2.2.2.2.2.2.2.2.2.1 y.2.2.2.2.2.2.2.2.2.2.2.2.2.2.2.1 y.2.2.2.2.2.2.2.2.2.2.2.2.2.2.2.2.1 y.2.2.2.2.2.2.2.2.2.2.2.2.2.2.2.2.2.1 y.2.2.2.2.2.2.2.2.2.2.2.2.2.2.2.2.2.2.1 y.2.2.2.2.2.2.2.2.2.2.2.2.2.2.2.2.2.2.2.1 y.2.2.2.2.2.2.2.2.2.2.2.2.2.2.2.2.2.2.2.2.1 y.2.2.2.2.2.2.2.2.2.2.2.2.2.2.2.2.2.2.2.2.2.1 y.2.2.2.2.2.2.2.2.2.2.2.2.2.2.2.2.2.2.2.2.2.2) n ((0),[],[],e,f,g,h,a.1.Ac,a.1.Ak,a.1.Aj,a.1.Af,a.1.Aw,a.1.Bi,i,j,k,l,m,o,p,q,r,c)).map Sum.inr)))
def g11 (n:Nat) (d:List Ab) (b:Ae) (e:Int) (a:Dg) (c:TP):Option iA:=
Bw (fun y:Int=>Jp n e (0) (4) d b.Call b.Kind b.Value b.Fix a.Name a.Fa a.B8 a.C5 a.Cb a.Eg a.Eh c.X c.Y y) n (0)
abbrev ρ6:=(Ae×(List Ab)×Int)
def Wj (n:Nat) (c:List (List Ab)) (d l e:Int) (c56:List Ae) (p9 m o:Int) (p:ByteArray) (q r s t u v:Int) (f:ByteArray) (a:Int) (g:ByteArray) (h i:Int) (j:ByteArray):Option ((Int×ByteArray×Int×Int×ByteArray)⊕ρ6):=
bif (decide (a<p9)) then (
(Ch c56 a).bind fun k=>
(Ch c d).bind fun w=>
(g11 n w k l (⟨p,q,r,s,t,u,v⟩:Dg) (⟨0,0⟩:TP)).bind fun b=>
bif (b.2==(0)) then (
(g45 n c d b.1 (⟨m,o⟩:Db)).bind fun x=>
bif x then (
some (.inr (k,b.1,(0)))) else (
some (.inl ((IntKind.wrap .i64 (a+(1))),g,h,i,j)))) else (
some (.inl ((IntKind.wrap .i64 (a+(1))),g,h,i,j)))) else (
some (.inr ((⟨f,e,e,f⟩:Ae),[],(8))))
def g6 (n:Nat) (b:List (List Ab)) (c:Int) (d:Db) (h:ByteArray) (f:Int) (a:Dg):Option ρ6:=
(g43 n b c d).bind fun g=>
bif (g !=(0)) then (
some ((⟨(⟨#[]⟩:ByteArray),0,0,(⟨#[]⟩:ByteArray)⟩:Ae),[],g)) else (
(Ch b c).bind fun i=>
(g44 n h i f a).bind fun e=>
bif (e.2 !=(0)) then (
some ((⟨(⟨#[]⟩:ByteArray),0,0,(⟨#[]⟩:ByteArray)⟩:Ae),[],e.2)) else (
(Ch b c).bind fun j=>
(g45 n b c j d).bind fun k=>
bif k then (
some ((⟨(⟨#[]⟩:ByteArray),0,0,(⟨#[]⟩:ByteArray)⟩:Ae),[],(11))) else (
Bw (fun y:Int×ByteArray×Int×Int×ByteArray=>Wj n b c f (0) e.1 (e.1.length:Int) d.Bf d.A9 a.Name a.Fa a.B8 a.C5 a.Cb a.Eg a.Eh (⟨#[]⟩:ByteArray) y.1 y.2.1 y.2.2.1 y.2.2.2.1 y.2.2.2.2) n ((0),(⟨#[]⟩:ByteArray),0,0,(⟨#[]⟩:ByteArray)))))
abbrev Aj1:=(ByteArray)
def g47 (n:Nat) (a:Ae):Option Aj1:=
bif (decide (a.Kind>(2))) then (
(Ch ([(⟨#[72,69,73,71,72,84]⟩:ByteArray),(⟨#[72,69,65,68,73,78,71]⟩:ByteArray),(⟨#[83,80,69,69,68]⟩:ByteArray),(⟨#[68,73,82,69,67,84]⟩:ByteArray),(⟨#[72,79,76,68]⟩:ByteArray),(⟨#[67,79,78,84,65,67,84]⟩:ByteArray),(⟨#[76,65,78,68]⟩:ByteArray)]:List ByteArray) a.Kind).bind fun b=>
(Ws b (⟨#[32]⟩:ByteArray)).bind fun c=>
(Ws c a.Fix).bind fun d=>
some (d)) else (
(Ch ([(⟨#[72,69,73,71,72,84]⟩:ByteArray),(⟨#[72,69,65,68,73,78,71]⟩:ByteArray),(⟨#[83,80,69,69,68]⟩:ByteArray),(⟨#[68,73,82,69,67,84]⟩:ByteArray),(⟨#[72,79,76,68]⟩:ByteArray),(⟨#[67,79,78,84,65,67,84]⟩:ByteArray),(⟨#[76,65,78,68]⟩:ByteArray)]:List ByteArray) a.Kind).bind fun e=>
(Ws e (⟨#[32]⟩:ByteArray)).bind fun f=>
(eK n a.Value).bind fun g=>
(Ws f g).bind fun h=>
some (h))
abbrev ρ7:=(ByteArray×Int)
def g7 (n:Nat) (a:Ae):Option ρ7:=
(Po n a).bind fun b=>
bif (b !=(0)) then (
some ((⟨#[]⟩:ByteArray),b)) else (
(g47 n a).bind fun c=>
(Ws c (⟨#[32]⟩:ByteArray)).bind fun d=>
(Ws d a.Call).bind fun e=>
some (e,(0)))
abbrev Aiu:=(Ae×Bool)
def g49 (n:Nat) (b e d:ByteArray):Option Aiu:=
(Zs n e).bind fun a=>
bif (decide (a<(0))) then (
some ((⟨b,a,0,(⟨#[]⟩:ByteArray)⟩:Ae),false)) else (
bif (decide (a>(2))) then (
some ((⟨b,a,0,d⟩:Ae),true)) else (
(Adi n d).bind fun c=>
bif c.2 then (
(eK n c.1).bind fun f=>
some ((⟨b,a,c.1,(⟨#[]⟩:ByteArray)⟩:Ae),((f).toList==(d).toList))) else (
some ((⟨b,a,c.1,(⟨#[]⟩:ByteArray)⟩:Ae),false))))
abbrev ρ8:=(Ae×Bool×Int)
def g8 (n:Nat) (d:ByteArray):Option ρ8:=
bif (decide ((d.size:Int)>(120))) then (
some ((⟨(⟨#[]⟩:ByteArray),0,0,(⟨#[]⟩:ByteArray)⟩:Ae),false,(2))) else (
(g48 n d (⟨#[32]⟩:ByteArray)).bind fun a=>
bif ((a.length:Int) !=(3)) then (
some ((⟨(⟨#[]⟩:ByteArray),0,0,(⟨#[]⟩:ByteArray)⟩:Ae),false,(5))) else (
(Ch a (0)).bind fun g=>
(Ch a (1)).bind fun h=>
(Ch a (2)).bind fun i=>
(g49 n g h i).bind fun b=>
bif (!b.2) then (
(Ch a (2)).bind fun j=>
(Ch a (0)).bind fun k=>
(Ch a (1)).bind fun l=>
(g49 n j k l).bind fun c=>
bif (!c.2) then (
some ((⟨(⟨#[]⟩:ByteArray),0,0,(⟨#[]⟩:ByteArray)⟩:Ae),false,(5))) else (
(Po n c.1).bind fun e=>
bif (e !=(0)) then (
some ((⟨(⟨#[]⟩:ByteArray),0,0,(⟨#[]⟩:ByteArray)⟩:Ae),false,e)) else (
some (c.1,true,(0))))) else (
bif (!b.2) then (
some ((⟨(⟨#[]⟩:ByteArray),0,0,(⟨#[]⟩:ByteArray)⟩:Ae),false,(5))) else (
(Po n b.1).bind fun f=>
bif (f !=(0)) then (
some ((⟨(⟨#[]⟩:ByteArray),0,0,(⟨#[]⟩:ByteArray)⟩:Ae),false,f)) else (
some (b.1,false,(0)))))))
abbrev zR:=(Bool)
def iS (n:Nat) (a:List Ah) (b:Int):Option zR:=
bif (decide (b<(0))) then (
some (true)) else (
bif (decide (b>(200000))) then (
some (true)) else (
bif (decide ((a.length:Int)>(0))) then (
(Ch a (IntKind.wrap .i64 ((a.length:Int)-(1)))).bind fun c=>
some (decide (b<c.Time))) else (
some (false))))
abbrev tS:=(Bool)
def qI (n:Nat) (a:Ah) (b:ByteArray) (c d:Int) (e:ByteArray):Option tS:=
bif ((a.Av).toList==(b).toList) then (
some (a.Aq==c)) else (
some (false))
abbrev eG:=(Int)
def Rz (n:Nat) (b:List Ah) (c:ByteArray) (d e:Int) (f:ByteArray) (i c7 a:Int):Option ((Int)⊕eG):=
bif (decide (a<c7)) then (
(Ch b a).bind fun g=>
(qI n g c d e f).bind fun h=>
bif h then (
some (.inr (a))) else (
some (.inl (IntKind.wrap .i64 (a+(1)))))) else (
some (.inr (-1)))
def vE (n:Nat) (a:List Ah) (b:ByteArray) (c d:Int) (e:ByteArray):Option eG:=
Bw (fun y:Int=>Rz n a b c d e (0) (a.length:Int) y) n (0)
abbrev Aj9:=(Int)
def g52 (n:Nat) (b:List Ah) (a:Ae):Option Aj9:=
(vE n b a.Call a.Kind a.Value a.Fix).bind fun c=>
some (c)
abbrev fJ:=(Int)
def Sx (n:Nat) (c:List Ah) (i O2 b:Int):Option ((Int)⊕fJ):=
bif (decide (b<O2)) then (
(Ch c b).bind fun a=>
(Po n (⟨a.Av,a.Aq,a.Am,a.Ay⟩:Ae)).bind fun d=>
bif (d !=(0)) then (
some (.inr (d))) else (
(F0 c none (some b)).bind fun e=>
(iS n e a.Time).bind fun f=>
bif f then (
some (.inr (12))) else (
(F0 c none (some b)).bind fun g=>
(g52 n g (⟨a.Av,a.Aq,a.Am,a.Ay⟩:Ae)).bind fun h=>
bif (decide (h≥(0))) then (
some (.inr (7))) else (
some (.inl (IntKind.wrap .i64 (b+(1)))))))) else (
some (.inr (0)))
def nA (n:Nat) (a:List Ah):Option fJ:=
bif (decide ((a.length:Int)>(12))) then (
some (2)) else (
Bw (fun y:Int=>Sx n a (0) (a.length:Int) y) n (0))
abbrev Aj8:=(Int)
def g50 (n:Nat) (a:List Ah) (d:Ae) (e:Int):Option Aj8:=
(nA n a).bind fun b=>
bif (b !=(0)) then (
some (b)) else (
(Po n d).bind fun c=>
bif (c !=(0)) then (
some (c)) else (
(iS n a e).bind fun f=>
bif f then (
some (12)) else (
some (0))))
abbrev ρ9:=((List Ah)×Int)
def g9 (n:Nat) (b:List Ah) (a:Ae) (c:Int):Option ρ9:=
(g50 n b a c).bind fun f=>
bif (f !=(0)) then (
some ([],f)) else (
(D0 b.length 56).bind fun g=>
(g52 n b a).bind fun d=>
bif (decide (d≥(0))) then (
(bX 56 b d (IntKind.wrap .i64 (d+(1)))).bind fun e=>
bif ((e.length:Int)==(12)) then (
some ([],(9))) else (
(D0 (e.length+([(⟨a.Call,a.Kind,a.Value,a.Fix,c⟩:Ah)]:List Ah).length) 56).bind fun h=>
some ((e++([(⟨a.Call,a.Kind,a.Value,a.Fix,c⟩:Ah)]:List Ah)),(0)))) else (
bif ((b.length:Int)==(12)) then (
some ([],(9))) else (
(D0 (b.length+([(⟨a.Call,a.Kind,a.Value,a.Fix,c⟩:Ah)]:List Ah).length) 56).bind fun i=>
some ((b++([(⟨a.Call,a.Kind,a.Value,a.Fix,c⟩:Ah)]:List Ah)),(0)))))
abbrev Ajs:=((List Ah)×Int)
def g10 (n:Nat) (a:List Ah) (d:Ae) (e:Int):Option Ajs:=
(g50 n a d e).bind fun f=>
bif (f !=(0)) then (
some ([],f)) else (
(g52 n a d).bind fun b=>
bif (decide (b<(0))) then (
some ([],(8))) else (
(Ch a b).bind fun g=>
bif (decide ((IntKind.wrap .i64 (e-g.Time))>(40))) then (
some ([],(21))) else (
(Ch a b).bind fun c=>
bif (!(decide ((⟨c.Av,c.Aq,c.Am,c.Ay⟩:Ae)=d))) then (
some ([],(17))) else (
(D0 a.length 56).bind fun i=>
(bX 56 a b (IntKind.wrap .i64 (b+(1)))).bind fun h=>
some (h,(0))))))
abbrev uA:=(Int)
def Nk (n:Nat) (b:Int) (d:List Int) (c7 a:Int):Option ((Int)⊕uA):=
bif (decide (a<c7)) then (
(Ch d a).bind fun c=>
bif (c !=b) then (
some (.inr (c))) else (
some (.inl (IntKind.wrap .i64 (a+(1)))))) else (
some (.inr (b)))
def g69 (n:Nat) (a:List Int):Option uA:=
Bw (fun y:Int=>Nk n (0) a (a.length:Int) y) n (0)
abbrev Ajk:=(Int)
def Yp (n:Nat) (a b:Ao):Option Ajk:=
(g69 n ([IntKind.wrap .i64 (a.Cs-b.Cs),IntKind.wrap .i64 (a.A-b.A),IntKind.wrap .i64 (a.B-b.B)]:List Int)).bind fun c=>
some (c)
abbrev Qy:=((List Ao)×Int)
def Gt (n:Nat) (f:List (List Ab)) (c5 d b c28:Int) (e:List Bq) (lQ g h u51:Int) (c:List Ao):Option ((Int×List Ao)⊕((Int×List Ao)⊕((Int×List Ao)⊕Qy))):=
bif (decide (u51<lQ)) then (
(Ch e u51).bind fun a=>
(D0 (c.length+([(⟨d,b,a.Cs,IntKind.wrap .i64 (a.To-(1))⟩:Ao)]:List Ao).length) 32).bind fun i=>
some (.inl ((IntKind.wrap .i64 (u51+(1))),(c++([(⟨d,b,a.Cs,IntKind.wrap .i64 (a.To-(1))⟩:Ao)]:List Ao))))) else (
some (.inr (.inl ((IntKind.wrap .i64 (b+(1))),c))))
def Iw (n:Nat) (a:List (List Ab)) (c5 b c28 d e c:Int) (f:List Ao):Option ((Int×List Ao)⊕((Int×List Ao)⊕Qy)):=
bif (decide (c<(a.length:Int))) then (
(Ch a b).bind fun h=>
(Ch a c).bind fun i=>
(jT n h i (⟨d,e⟩:Db)).bind fun g=>
Bw (fun y:Int×List Ao=>Gt n a c5 b c c28 g (g.length:Int) d e y.1 y.2) n ((0),f)) else (
some (.inr (.inl ((IntKind.wrap .i64 (b+(1))),f))))
def Qq (n:Nat) (c:List (List Ab)) (c5 c28 d e a:Int) (b:List Ao):Option ((Int×List Ao)⊕Qy):=
bif (decide (a<c28)) then (
Bw (fun y:Int×List Ao=>Iw n c c5 a c28 d e y.1 y.2) n ((IntKind.wrap .i64 (a+(1))),b)) else (
bif (decide ((b.length:Int)>(256))) then (
some (.inr ([],(2)))) else (
(Pc (fun x y=>Yp n x y) b).bind fun f=>
some (.inr (f,(0)))))
def g12 (n:Nat) (a:List (List Ab)) (b:Db):Option Qy:=
(gB n b).bind fun c=>
bif (c !=(0)) then (
some ([],c)) else (
bif (decide ((a.length:Int)>(24))) then (
some ([],(2))) else (
(g65 n b a).bind fun d=>
bif (d !=(0)) then (
some ([],d)) else (
Bw (fun y:Int×List Ao=>Qq n a (0) (a.length:Int) b.Bf b.A9 y.1 y.2) n ((0),[]))))
abbrev Aix:=(Bool)
def g17 (n:Nat) (a:Ao) (b:Int):Option Aix:=
bif (a.A==b) then (
some (true)) else (
some (a.B==b))
abbrev qM:=(Int)
def W7 (n:Nat) (b:List Ao) (c f c7 a:Int):Option ((Int)⊕qM):=
bif (decide (a<c7)) then (
(Ch b a).bind fun d=>
(g17 n d c).bind fun e=>
bif e then (
some (.inr (a))) else (
some (.inl (IntKind.wrap .i64 (a+(1)))))) else (
some (.inr (-1)))
def g70 (n:Nat) (a:List Ao) (b:Int):Option qM:=
Bw (fun y:Int=>W7 n a b (0) (a.length:Int) y) n (0)
abbrev zX:=((List Ao))
def Pn (n:Nat) (f a c:Int) (b:List Ao):Option ((Int×Int×List Ao)⊕zX):=
bif (decide (c<(b.length:Int))) then (
(Ch b c).bind fun d=>
(g17 n d f).bind fun g=>
bif (!g) then (
(Ch b a).bind fun i=>
some (.inl ((IntKind.wrap .i64 (a+(1))),IntKind.wrap .i64 (c+(1)),(b.set ((a:Int).toNat) d)))) else (
some (.inl (a,IntKind.wrap .i64 (c+(1)),b)))) else (
(F0 b (some a) none).bind fun e=>
(neO e).bind fun j=>
(F0 (Oz ((⟨0,0,0,0⟩:Ao):Ao) b e ((a:Int).toNat)) none (some a)).bind fun h=>
some (.inr h))
def g15 (n:Nat) (a:List Ao) (c:Int):Option zX:=
(g70 n a c).bind fun b=>
bif (b==(-1)) then (
some a) else (
Bw (fun y:Int×Int×List Ao=>Pn n c y.1 y.2.1 y.2.2) n (b,IntKind.wrap .i64 (b+(1)),a))
abbrev uC:=(Bool)
def Tp (n:Nat) (b c:List Ao) (f:Bool) (c12 a:Int):Option ((Int)⊕uC):=
bif (decide (a<c12)) then (
(Ch b a).bind fun d=>
(Ch c a).bind fun e=>
bif (!(decide (d=e))) then (
some (.inr (false))) else (
some (.inl (IntKind.wrap .i64 (a+(1)))))) else (
some (.inr (true)))
def g18 (n:Nat) (a b:List Ao):Option uC:=
bif ((a.length:Int) !=(b.length:Int)) then (
some (false)) else (
Bw (fun y:Int=>Tp n a b false (a.length:Int) y) n (0))
abbrev ρ4:=Bool
def g4 (n:Nat):Option ρ4:=some true
abbrev ρ3:=(Bool)
def g3 (n:Nat) (b:List (List Ab)) (c:Int) (f:Db) (d:Int) (i:Dg):Option ρ3:=
(g4 n).bind fun o=>
bif (!o) then (
some (false)) else (
(g5 n b (4) (200)).bind fun p=>
bif (!p) then (
some (true)) else (
(g6 n b c f (⟨#[65,49]⟩:ByteArray) d i).bind fun g=>
bif (g.2.2 !=(0)) then (
some (true)) else (
(g7 n g.1).bind fun j=>
(g8 n j.1).bind fun e=>
(g9 n ([]:List Ah) g.1 d).bind fun k=>
(g10 n k.1 e.1 d).bind fun l=>
(Ch b c).bind fun q=>
(g11 n q e.1 d i (⟨0,0⟩:TP)).bind fun m=>
(g12 n b f).bind fun a=>
(D0 b.length 24).bind fun u=>
(Ch b c).bind fun v=>
(g12 n (b.set ((c:Int).toNat) m.1) f).bind fun h=>
bif (j.2 !=(0)) then (
some (false)) else (
bif (e.2.2 !=(0)) then (
some (false)) else (
bif (k.2 !=(0)) then (
some (false)) else (
bif (l.2 !=(0)) then (
some (false)) else (
bif (m.2 !=(0)) then (
some (false)) else (
bif (!e.2.1) then (
some (false)) else (
bif (decide ((l.1.length:Int)>(0))) then (
some (false)) else (
bif (a.2==(2)) then (
some (true)) else (
bif (h.2==(2)) then (
some (true)) else (
bif (a.2==(0)) then (
bif (h.2==(0)) then (
(D0 a.1.length 32).bind fun w=>
(neO a.1).bind fun x=>
(g15 n a.1 c).bind fun r=>
bif (decide ((r.length:Int)<(a.1.length:Int))) then (
(D0 a.1.length 32).bind fun y=>
(neO a.1).bind fun z=>
(g15 n a.1 c).bind fun s=>
(g18 n h.1 s).bind fun t=>
some (t)) else (
some (false))) else (
some (false))) else (
some (false))))))))))))))
end Go.Proofs.YtkdodbfnocdkdaaGreatDoor
