/- A part. -/
import Derived.Test.YtmhnnmfcjdnlhaaGreatDoorX1T
import Derived.Test.YtmhnnmfcjdnlhaaGreatDoorPJ
import Derived.Test.YtmhnnmfcjdnlhaaGreatDoorPL
import Derived.Test.YtmhnnmfcjdnlhaaGreatDoorPn
set_option linter.unusedVariables false
set_option linter.unusedSimpArgs false
set_option maxRecDepth 100000
set_option maxHeartbeats 4000000
namespace Go.Proofs.YtmhnnmfcjdnlhaaGreatDoor
abbrev vA:=(Int)
def fX (n:Nat) (a:Ea):Option vA:=
bif (decide (a.Bu<(0))) then (
some (4)) else (
bif (decide (a.Bu>(1000000))) then (
some (4)) else (
bif (decide (a.Bj<(0))) then (
some (4)) else (
bif (decide (a.Bj>(60000))) then (
some (4)) else (
some (0)))))
abbrev sA:=(Int)
def Qy (n:Nat) (a:TP):Option sA:=
bif (decide (a.X<(-1000000))) then (
some (4)) else (
bif (decide (a.X>(1000000))) then (
some (4)) else (
bif (decide (a.Y<(-1000000))) then (
some (4)) else (
bif (decide (a.Y>(1000000))) then (
some (4)) else (
some (0)))))
abbrev Vt:=(Int)
def I7 (n:Nat) (c:List Ab) (h f b:Int):Option ((Int)⊕Vt):=
bif (decide (b<f)) then (
(Dq c b).bind fun a=>
bif (decide (a.Ac<(0))) then (
some (.inr (12))) else (
bif (decide (a.Ac>(200000))) then (
some (.inr (12))) else (
bif (decide (b>(0))) then (
(Dq c (IntKind.wrap .i64 (b-(1)))).bind fun g=>
bif (decide (a.Ac≤g.Ac)) then (
some (.inr (12))) else (
(Qy n (⟨a.Ak,a.Aj⟩:TP)).bind fun d=>
bif (d !=(0)) then (
some (.inr (d))) else (
bif (decide (a.Ad<(0))) then (
some (.inr (4))) else (
bif (decide (a.Ad>(60000))) then (
some (.inr (4))) else (
bif (decide (a.Ay<(0))) then (
some (.inr (4))) else (
bif (decide (a.Ay>(1000000))) then (
some (.inr (4))) else (
bif (decide (a.Br<(0))) then (
some (.inr (4))) else (
bif (decide (a.Br>(60000))) then (
some (.inr (4))) else (
some (.inl (IntKind.wrap .i64 (b+(1))))))))))))) else (
(Qy n (⟨a.Ak,a.Aj⟩:TP)).bind fun e=>
bif (e !=(0)) then (
some (.inr (e))) else (
bif (decide (a.Ad<(0))) then (
some (.inr (4))) else (
bif (decide (a.Ad>(60000))) then (
some (.inr (4))) else (
bif (decide (a.Ay<(0))) then (
some (.inr (4))) else (
bif (decide (a.Ay>(1000000))) then (
some (.inr (4))) else (
bif (decide (a.Br<(0))) then (
some (.inr (4))) else (
bif (decide (a.Br>(60000))) then (
some (.inr (4))) else (
some (.inl (IntKind.wrap .i64 (b+(1))))))))))))))) else (
some (.inr (0)))
def K7 (n:Nat) (a:List Ab):Option Vt:=
bif (decide ((a.length:Int)>(64))) then (
some (2)) else (
bif ((a.length:Int)==(0)) then (
some (3)) else (
Bt (fun y:Int=>I7 n a (0) (a.length:Int) y) n (0)))
abbrev V2:=(Int)
def S9 (n:Nat) (f:Int) (c:List (List Ab)) (d a:Int):Option ((Int)⊕V2):=
bif (decide (a<d)) then (
(Dq c a).bind fun e=>
(K7 n e).bind fun b=>
bif (b !=(0)) then (
some (.inr (b))) else (
some (.inl (IntKind.wrap .i64 (a+(1)))))) else (
some (.inr (0)))
def g69 (n:Nat) (c:Ea) (a:List (List Ab)):Option V2:=
(fX n c).bind fun b=>
bif (b !=(0)) then (
some (b)) else (
Bt (fun y:Int=>S9 n (0) a (a.length:Int) y) n (0))
abbrev pQ:=(Int×Int)
def g82 (n:Nat) (a b:List Ab):Option pQ:=
(Dq a (0)).bind fun c=>
(Dq b (0)).bind fun d=>
(Dq a (IntKind.wrap .i64 ((a.length:Int)-(1)))).bind fun e=>
(Dq b (IntKind.wrap .i64 ((b.length:Int)-(1)))).bind fun f=>
some ((if d.Ac>c.Ac then d.Ac else c.Ac),(if f.Ac<e.Ac then f.Ac else e.Ac))
abbrev wZ:=(Int×Int)
def g38 (n:Nat) (a:List Ab):Option wZ:=
(Dq a (0)).bind fun b=>
(Dq a (IntKind.wrap .i64 ((a.length:Int)-(1)))).bind fun c=>
some (b.Ac,c.Ac)
abbrev vC:=(Int)
def g51 (n:Nat) (a:Ab) (b:Int):Option vC:=
some (IntKind.wrap .i64 (a.Ac-b))
abbrev Vb:=(Int×Bool)
def Rs (n:Nat) (c:List Ab) (d c6:Int) (c7:Bool) (c8 a b:Int):Option ((Int×Int)⊕Vb):=
bif (decide (a<b)) then (
(Dq c (IntKind.wrap .i64 (Int.fdiv (IntKind.wrap .u64 (IntKind.wrap .i64 (a+b))) 2))).bind fun e=>
(g51 n e d).bind fun f=>
bif (decide (f<(0))) then (
some (.inl ((IntKind.wrap .i64 ((IntKind.wrap .i64 (Int.fdiv (IntKind.wrap .u64 (IntKind.wrap .i64 (a+b))) 2))+(1))),b))) else (
some (.inl (a,(IntKind.wrap .i64 (Int.fdiv (IntKind.wrap .u64 (IntKind.wrap .i64 (a+b))) 2)))))) else (
bif (decide (a<c8)) then (
(Dq c a).bind fun g=>
(g51 n g d).bind fun h=>
some (.inr (a,(h==(0))))) else (
some (.inr (a,false))))
def g50 (n:Nat) (a:List Ab) (b:Int):Option Vb:=
Bt (fun y:Int×Int=>Rs n a b (0) false (a.length:Int) y.1 y.2) n ((0),(a.length:Int))
abbrev sX:=(Int×Int)
def Zh (n:Nat) (b a:Int):Option sX:=
bif (a==(0)) then (
some ((0),(10))) else (
bif (b==(-9223372036854775808)) then (
bif (a==(-1)) then (
some ((0),(2))) else (
(Js b a).bind fun c=>
(K3 b a).bind fun e=>
bif (e !=(0)) then (
bif (!((decide (b<(0)))==(decide (a<(0))))) then (
some ((IntKind.wrap .i64 ((IntKind.wrap .i64 c)-(1))),(0))) else (
some ((IntKind.wrap .i64 c),(0)))) else (
some ((IntKind.wrap .i64 c),(0))))) else (
(Js b a).bind fun d=>
(K3 b a).bind fun f=>
bif (f !=(0)) then (
bif (!((decide (b<(0)))==(decide (a<(0))))) then (
some ((IntKind.wrap .i64 ((IntKind.wrap .i64 d)-(1))),(0))) else (
some ((IntKind.wrap .i64 d),(0)))) else (
some ((IntKind.wrap .i64 d),(0)))))
abbrev uB:=(TP×Int)
def oO (n:Nat) (a c:TP) (d b:Int):Option uB:=
bif (decide (b≤(0))) then (
some ((⟨0,0⟩:TP),(10))) else (
bif (decide (b>(200000))) then (
some ((⟨0,0⟩:TP),(4))) else (
bif (decide (d<(0))) then (
some ((⟨0,0⟩:TP),(4))) else (
bif (decide (d>b)) then (
some ((⟨0,0⟩:TP),(4))) else (
(Qy n a).bind fun e=>
bif (e !=(0)) then (
(Qy n a).bind fun f=>
some ((⟨0,0⟩:TP),f)) else (
(Qy n c).bind fun g=>
bif (g !=(0)) then (
(Qy n c).bind fun h=>
some ((⟨0,0⟩:TP),h)) else (
(Zh n (IntKind.wrap .i64 ((IntKind.wrap .i64 (c.X-a.X))*d)) b).bind fun i=>
(Zh n (IntKind.wrap .i64 ((IntKind.wrap .i64 (c.Y-a.Y))*d)) b).bind fun j=>
some ((⟨IntKind.wrap .i64 (a.X+i.1),IntKind.wrap .i64 (a.Y+j.1)⟩:TP),(0))))))))
abbrev pT:=(Int×Int)
def W1 (n:Nat) (b c:Int):Option pT:=
(Zh n b c).bind fun a=>
bif (a.2==(0)) then (
(K3 b c).bind fun d=>
bif (d !=(0)) then (
some ((IntKind.wrap .i64 (a.1+(1))),a.2)) else (
some (a.1,a.2))) else (
some (a.1,a.2))
abbrev w5:=(Ab)
def aE (n:Nat) (d:List Ab) (c:Int):Option w5:=
(g50 n d c).bind fun e=>
bif e.2 then (
(Dq d e.1).bind fun g=>
some (g)) else (
(Dq d (IntKind.wrap .i64 (e.1-(1)))).bind fun a=>
(Dq d e.1).bind fun b=>
(oO n (⟨a.Ak,a.Aj⟩:TP) (⟨b.Ak,b.Aj⟩:TP) (IntKind.wrap .i64 (c-a.Ac)) (IntKind.wrap .i64 (b.Ac-a.Ac))).bind fun f=>
(Zh n (IntKind.wrap .i64 ((IntKind.wrap .i64 (b.Ad-a.Ad))*(IntKind.wrap .i64 (c-a.Ac)))) (IntKind.wrap .i64 (b.Ac-a.Ac))).bind fun h=>
(W1 n (IntKind.wrap .i64 ((IntKind.wrap .i64 (b.Ay-a.Ay))*(IntKind.wrap .i64 (c-a.Ac)))) (IntKind.wrap .i64 (b.Ac-a.Ac))).bind fun i=>
(W1 n (IntKind.wrap .i64 ((IntKind.wrap .i64 (b.Br-a.Br))*(IntKind.wrap .i64 (c-a.Ac)))) (IntKind.wrap .i64 (b.Ac-a.Ac))).bind fun j=>
some (⟨c,f.1.X,f.1.Y,IntKind.wrap .i64 (a.Ad+h.1),IntKind.wrap .i64 (a.Ay+i.1),IntKind.wrap .i64 (a.Br+j.1)⟩:Ab))
abbrev wI:=(Ab×Int)
def P4 (n:Nat) (a:List Ab) (b:Int):Option wI:=
(K7 n a).bind fun c=>
bif (c !=(0)) then (
some ((⟨0,0,0,0,0,0⟩:Ab),c)) else (
(g38 n a).bind fun d=>
bif (decide (b<d.1)) then (
some ((⟨0,0,0,0,0,0⟩:Ab),(12))) else (
bif (decide (b>d.2)) then (
some ((⟨0,0,0,0,0,0⟩:Ab),(12))) else (
(aE n a b).bind fun e=>
some (e,(0)))))
abbrev o8:=(TP)
def zR (n:Nat) (a b:TP):Option o8:=
some (⟨IntKind.wrap .i64 (a.X-b.X),IntKind.wrap .i64 (a.Y-b.Y)⟩:TP)
abbrev pP:=(Int)
def g78 (n:Nat) (a b:TP):Option pP:=
some (IntKind.wrap .i64 ((IntKind.wrap .i64 (a.X*b.X))+(IntKind.wrap .i64 (a.Y*b.Y))))
abbrev pI:=(Int)
def g60 (n:Nat) (b c:TP):Option pI:=
(zR n b c).bind fun a=>
(g78 n a a).bind fun d=>
some (d)
abbrev Ux:=(Int)
def Mv (n:Nat) (c d a b:Int):Option ((Int×Int)⊕Ux):=
bif (decide (a<b)) then (
bif (decide ((IntKind.wrap .i64 ((IntKind.wrap .i64 (a+(IntKind.wrap .i64 (Int.tdiv (IntKind.wrap .i64 ((IntKind.wrap .i64 (b-a))+(1))) (2)))))*(IntKind.wrap .i64 (a+(IntKind.wrap .i64 (Int.tdiv (IntKind.wrap .i64 ((IntKind.wrap .i64 (b-a))+(1))) (2)))))))≤c)) then (
some (.inl ((IntKind.wrap .i64 (a+(IntKind.wrap .i64 (Int.tdiv (IntKind.wrap .i64 ((IntKind.wrap .i64 (b-a))+(1))) (2))))),b))) else (
some (.inl (a,(IntKind.wrap .i64 ((IntKind.wrap .i64 (a+(IntKind.wrap .i64 (Int.tdiv (IntKind.wrap .i64 ((IntKind.wrap .i64 (b-a))+(1))) (2)))))-(1))))))) else (
some (.inr (a)))
def xM (n:Nat) (a:Int):Option Ux:=
bif (decide (a≤(0))) then (
some (0)) else (
Bt (fun y:Int×Int=>Mv n a (0) y.1 y.2) n ((0),(3037000499)))
abbrev rM:=(Int×Int)
def aG (n:Nat) (c d:TP):Option rM:=
(g60 n c d).bind fun b=>
(xM n b).bind fun a=>
bif (decide ((IntKind.wrap .i64 (a*a))<b)) then (
some (a,(IntKind.wrap .i64 (a+(1))))) else (
some (a,a))
abbrev vN:=(Bool)
def g83 (n:Nat) (a b:Ab) (c:Ea):Option vN:=
(aG n (⟨a.Ak,a.Aj⟩:TP) (⟨b.Ak,b.Aj⟩:TP)).bind fun d=>
bif (decide ((IntKind.wrap .i64 ((IntKind.wrap .i64 (d.1-a.Ay))-b.Ay))≥c.Bu)) then (
some (true)) else (
some (decide ((IntKind.wrap .i64 ((IntKind.wrap .i64 ((if (IntKind.wrap .i64 (b.Ad-a.Ad))>(IntKind.wrap .i64 (a.Ad-b.Ad)) then (IntKind.wrap .i64 (b.Ad-a.Ad)) else (IntKind.wrap .i64 (a.Ad-b.Ad)))-a.Br))-b.Br))≥c.Bj)))
abbrev Vw:=((List Cc))
def Rx (n:Nat) (c d:List Ab) (c9 e f a:Int) (b:List Cc):Option ((Int×List Cc)⊕Vw):=
bif (decide (a≤c9)) then (
(P4 n c a).bind fun g=>
(P4 n d a).bind fun h=>
(g83 n g.1 h.1 (⟨e,f⟩:Ea)).bind fun i=>
bif i then (
some (.inl ((IntKind.wrap .i64 (a+(1))),b))) else (
bif (decide ((b.length:Int)>(0))) then (
(Dq b (IntKind.wrap .i64 ((b.length:Int)-(1)))).bind fun j=>
bif (j.To==a) then (
(Dq b (IntKind.wrap .i64 ((b.length:Int)-(1)))).bind fun k=>
some (.inl ((IntKind.wrap .i64 (a+(1))),(b.set (((IntKind.wrap .i64 ((b.length:Int)-(1))):Int).toNat) (⟨k.Sr,IntKind.wrap .i64 (a+(1))⟩:Cc))))) else (
(Fc (b.length+([(⟨a,IntKind.wrap .i64 (a+(1))⟩:Cc)]:List Cc).length) 16).bind fun l=>
some (.inl ((IntKind.wrap .i64 (a+(1))),(b++([(⟨a,IntKind.wrap .i64 (a+(1))⟩:Cc)]:List Cc)))))) else (
(Fc (b.length+([(⟨a,IntKind.wrap .i64 (a+(1))⟩:Cc)]:List Cc).length) 16).bind fun m=>
some (.inl ((IntKind.wrap .i64 (a+(1))),(b++([(⟨a,IntKind.wrap .i64 (a+(1))⟩:Cc)]:List Cc))))))) else (
some (.inr (b)))
def g70 (n:Nat) (a b:List Ab) (c:Ea):Option Vw:=
(g82 n a b).bind fun d=>
Bt (fun y:Int×List Cc=>Rx n a b d.2 c.Bu c.Bj y.1 y.2) n (d.1,[])
abbrev sU:=((List Cc)×Int)
def g49 (n:Nat) (a b:List Ab) (c:Ea):Option sU:=
(g69 n c ([a,b]:List (List Ab))).bind fun d=>
bif (d !=(0)) then (
some ([],d)) else (
(g70 n a b c).bind fun e=>
some (e,(0)))
abbrev rU:=(Int×Int)
def lZ (n:Nat) (b c:List Ab) (d:Ea):Option rU:=
(g49 n b c d).bind fun a=>
bif (a.2 !=(0)) then (
some ((0),a.2)) else (
bif ((a.1.length:Int)==(0)) then (
some ((0),(8))) else (
(Dq a.1 (0)).bind fun e=>
some (e.Sr,(0))))
abbrev qT:=(Int)
def Zi (n:Nat) (a:Int):Option qT:=
some (Int.tmod (IntKind.wrap .i64 ((Int.tmod a (4096))+(4096))) (4096))
abbrev s7:=(Bool)
def oQ (n a:Nat):Option s7:=
some (fNe a a)
abbrev qL:=(Nat)
def g94 (n a:Nat):Option qL:=
some (Int.toNat (G3 .u64 (a:Int) (9223372036854775808)))
abbrev oZ:=(Bool)
def fV (n a:Nat) (b:Int):Option oZ:=
bif (b==(0)) then (
(g94 n a).bind fun c=>
some (Uz c 9218868437227405311)) else (
bif (decide (b<(0))) then (
some (Uz (Ic a) 9218868437227405311)) else (
some (Uz a 9218868437227405311)))
abbrev rP:=(Nat)
def g87 (n:Nat):Option rP:=
some (Int.toNat (9221120237041090561))
abbrev Adj:=(Int×Nat)
def Aih (n a:Nat):Option Adj:=
none
abbrev cL:=(Nat)
def h9 (n k:Nat):Option cL:=
bif (iN k 0) then (
some (k)) else (
(oQ n k).bind fun s=>
bif s then (
some (k)) else (
(fV n k (0)).bind fun t=>
bif t then (
(g87 n).bind fun u=>
some (u)) else (
bif (xR k 0) then (
bif (uX (Ic k) 4737786807993761792) then (
none) else (
(A0 (Ic k) 4608412980311869571).bind fun v=>
(Qd .u64 v).bind fun i=>
bif ((E2 .u64 i (1))==(1)) then (
(Be (Jn i) 4607182418800017408).bind fun q=>
(A0 q 4605249456957292544).bind fun w=>
(D2 (Ic k) w).bind fun x=>
(A0 q 4495793288086814720).bind fun y=>
(D2 x y).bind fun z=>
(A0 q 4388835458085048688).bind fun aa=>
(D2 z aa).bind fun l=>
bif (decide ((E2 .u64 (IntKind.wrap .u64 (i+(1))) (7))>(3))) then (
(A0 l l).bind fun a=>
bif ((IntKind.wrap .u64 ((E2 .u64 (IntKind.wrap .u64 (i+(1))) (7))-(4)))==(1)) then (
(A0 4602678819172646912 a).bind fun ab=>
(D2 4607182418800017408 ab).bind fun ad=>
(A0 a a).bind fun ae=>
(A0 13666448263388469915 a).bind fun af=>
(Be af 4477121864728985349).bind fun ag=>
(A0 ag a).bind fun ah=>
(Be ah 13732177093698800582).bind fun ai=>
(A0 ai a).bind fun aj=>
(Be aj 4537941361668146421).bind fun ak=>
(A0 ak a).bind fun al=>
(Be al 13787419979223748497).bind fun am=>
(A0 am a).bind fun an=>
(Be an 4586165620538955083).bind fun ao=>
(A0 ae ao).bind fun ap=>
(Be ad ap).bind fun aq=>
some (aq)) else (
bif ((IntKind.wrap .u64 ((E2 .u64 (IntKind.wrap .u64 (i+(1))) (7))-(4)))==(2)) then (
(A0 4602678819172646912 a).bind fun ar=>
(D2 4607182418800017408 ar).bind fun au=>
(A0 a a).bind fun av=>
(A0 13666448263388469915 a).bind fun aw=>
(Be aw 4477121864728985349).bind fun ax=>
(A0 ax a).bind fun ay=>
(Be ay 13732177093698800582).bind fun az=>
(A0 az a).bind fun ba=>
(Be ba 4537941361668146421).bind fun bb=>
(A0 bb a).bind fun bc=>
(Be bc 13787419979223748497).bind fun bd=>
(A0 bd a).bind fun be=>
(Be be 4586165620538955083).bind fun bf=>
(A0 av bf).bind fun bg=>
(Be au bg).bind fun bh=>
some (bh)) else (
(A0 l a).bind fun bi=>
(A0 4460209587652500685 a).bind fun bj=>
(Be bj 13716528389658582877).bind fun bk=>
(A0 bk a).bind fun bl=>
(Be bl 4523617212962785441).bind fun bm=>
(A0 bm a).bind fun bn=>
(Be bn 13774824197404483331).bind fun bo=>
(A0 bo a).bind fun bp=>
(Be bp 4575957461383575504).bind fun bq=>
(A0 bq a).bind fun br=>
(Be br 13818544856648471880).bind fun bs=>
(A0 bi bs).bind fun bt=>
(Be l bt).bind fun bu=>
some (bu)))) else (
(A0 l l).bind fun b=>
bif ((E2 .u64 (IntKind.wrap .u64 (i+(1))) (7))==(1)) then (
(A0 4602678819172646912 b).bind fun bv=>
(D2 4607182418800017408 bv).bind fun bw=>
(A0 b b).bind fun bz=>
(A0 13666448263388469915 b).bind fun ca=>
(Be ca 4477121864728985349).bind fun cb=>
(A0 cb b).bind fun cc=>
(Be cc 13732177093698800582).bind fun cd=>
(A0 cd b).bind fun ce=>
(Be ce 4537941361668146421).bind fun cg=>
(A0 cg b).bind fun ch=>
(Be ch 13787419979223748497).bind fun ci=>
(A0 ci b).bind fun cj=>
(Be cj 4586165620538955083).bind fun ck=>
(A0 bz ck).bind fun cl=>
(Be bw cl).bind fun cm=>
some (Ic cm)) else (
bif ((E2 .u64 (IntKind.wrap .u64 (i+(1))) (7))==(2)) then (
(A0 4602678819172646912 b).bind fun cn=>
(D2 4607182418800017408 cn).bind fun co=>
(A0 b b).bind fun cp=>
(A0 13666448263388469915 b).bind fun cq=>
(Be cq 4477121864728985349).bind fun cr=>
(A0 cr b).bind fun cs=>
(Be cs 13732177093698800582).bind fun ct=>
(A0 ct b).bind fun cu=>
(Be cu 4537941361668146421).bind fun cv=>
(A0 cv b).bind fun cw=>
(Be cw 13787419979223748497).bind fun cx=>
(A0 cx b).bind fun cy=>
(Be cy 4586165620538955083).bind fun cz=>
(A0 cp cz).bind fun da=>
(Be co da).bind fun db=>
some (Ic db)) else (
(A0 l b).bind fun dc=>
(A0 4460209587652500685 b).bind fun dd=>
(Be dd 13716528389658582877).bind fun de=>
(A0 de b).bind fun df=>
(Be df 4523617212962785441).bind fun dg=>
(A0 dg b).bind fun dh=>
(Be dh 13774824197404483331).bind fun di=>
(A0 di b).bind fun dj=>
(Be dj 4575957461383575504).bind fun dk=>
(A0 dk b).bind fun dl=>
(Be dl 13818544856648471880).bind fun dm=>
(A0 dc dm).bind fun dn=>
(Be l dn).bind fun dp=>
some (Ic dp))))) else (
(A0 (Jn i) 4605249456957292544).bind fun dq=>
(D2 (Ic k) dq).bind fun ds=>
(A0 (Jn i) 4495793288086814720).bind fun dt=>
(D2 ds dt).bind fun du=>
(A0 (Jn i) 4388835458085048688).bind fun dv=>
(D2 du dv).bind fun m=>
bif (decide ((E2 .u64 i (7))>(3))) then (
(A0 m m).bind fun c=>
bif ((IntKind.wrap .u64 ((E2 .u64 i (7))-(4)))==(1)) then (
(A0 4602678819172646912 c).bind fun dw=>
(D2 4607182418800017408 dw).bind fun dx=>
(A0 c c).bind fun dy=>
(A0 13666448263388469915 c).bind fun dz=>
(Be dz 4477121864728985349).bind fun ea=>
(A0 ea c).bind fun eb=>
(Be eb 13732177093698800582).bind fun ec=>
(A0 ec c).bind fun ed=>
(Be ed 4537941361668146421).bind fun ee=>
(A0 ee c).bind fun ef=>
(Be ef 13787419979223748497).bind fun eg=>
(A0 eg c).bind fun eh=>
(Be eh 4586165620538955083).bind fun ei=>
(A0 dy ei).bind fun ej=>
(Be dx ej).bind fun ek=>
some (ek)) else (
bif ((IntKind.wrap .u64 ((E2 .u64 i (7))-(4)))==(2)) then (
(A0 4602678819172646912 c).bind fun el=>
(D2 4607182418800017408 el).bind fun em=>
(A0 c c).bind fun en=>
(A0 13666448263388469915 c).bind fun eo=>
(Be eo 4477121864728985349).bind fun ep=>
(A0 ep c).bind fun eq=>
(Be eq 13732177093698800582).bind fun er=>
(A0 er c).bind fun es=>
(Be es 4537941361668146421).bind fun et=>
(A0 et c).bind fun eu=>
(Be eu 13787419979223748497).bind fun ev=>
(A0 ev c).bind fun ew=>
(Be ew 4586165620538955083).bind fun ex=>
(A0 en ex).bind fun ey=>
(Be em ey).bind fun ez=>
some (ez)) else (
(A0 m c).bind fun fa=>
(A0 4460209587652500685 c).bind fun fb=>
(Be fb 13716528389658582877).bind fun fc=>
(A0 fc c).bind fun fd=>
(Be fd 4523617212962785441).bind fun fe=>
(A0 fe c).bind fun ff=>
(Be ff 13774824197404483331).bind fun fg=>
(A0 fg c).bind fun fh=>
(Be fh 4575957461383575504).bind fun fi=>
(A0 fi c).bind fun fj=>
(Be fj 13818544856648471880).bind fun fk=>
(A0 fa fk).bind fun fl=>
(Be m fl).bind fun fm=>
some (fm)))) else (
(A0 m m).bind fun d=>
bif ((E2 .u64 i (7))==(1)) then (
(A0 4602678819172646912 d).bind fun fn=>
(D2 4607182418800017408 fn).bind fun fo=>
(A0 d d).bind fun fp=>
(A0 13666448263388469915 d).bind fun fq=>
(Be fq 4477121864728985349).bind fun fr=>
(A0 fr d).bind fun fs=>
(Be fs 13732177093698800582).bind fun ft=>
(A0 ft d).bind fun fu=>
(Be fu 4537941361668146421).bind fun fv=>
(A0 fv d).bind fun fw=>
(Be fw 13787419979223748497).bind fun fx=>
(A0 fx d).bind fun fy=>
(Be fy 4586165620538955083).bind fun fz=>
(A0 fp fz).bind fun ga=>
(Be fo ga).bind fun gb=>
some (Ic gb)) else (
bif ((E2 .u64 i (7))==(2)) then (
(A0 4602678819172646912 d).bind fun gc=>
(D2 4607182418800017408 gc).bind fun gd=>
(A0 d d).bind fun ge=>
(A0 13666448263388469915 d).bind fun gf=>
(Be gf 4477121864728985349).bind fun gg=>
(A0 gg d).bind fun gh=>
(Be gh 13732177093698800582).bind fun gi=>
(A0 gi d).bind fun gj=>
(Be gj 4537941361668146421).bind fun gk=>
(A0 gk d).bind fun gl=>
(Be gl 13787419979223748497).bind fun gm=>
(A0 gm d).bind fun gn=>
(Be gn 4586165620538955083).bind fun go=>
(A0 ge go).bind fun gp=>
(Be gd gp).bind fun gq=>
some (Ic gq)) else (
(A0 m d).bind fun gr=>
(A0 4460209587652500685 d).bind fun gs=>
(Be gs 13716528389658582877).bind fun gt=>
(A0 gt d).bind fun gu=>
(Be gu 4523617212962785441).bind fun gv=>
(A0 gv d).bind fun gw=>
(Be gw 13774824197404483331).bind fun gx=>
(A0 gx d).bind fun gy=>
(Be gy 4575957461383575504).bind fun gz=>
(A0 gz d).bind fun ha=>
(Be ha 13818544856648471880).bind fun hb=>
(A0 gr hb).bind fun hc=>
(Be m hc).bind fun hd=>
some (Ic hd))))))) else (
bif (uX k 4737786807993761792) then (
none) else (
(A0 k 4608412980311869571).bind fun he=>
(Qd .u64 he).bind fun j=>
bif ((E2 .u64 j (1))==(1)) then (
(Be (Jn j) 4607182418800017408).bind fun r=>
(A0 r 4605249456957292544).bind fun hf=>
(D2 k hf).bind fun hg=>
(A0 r 4495793288086814720).bind fun hh=>
(D2 hg hh).bind fun hi=>
(A0 r 4388835458085048688).bind fun hj=>
(D2 hi hj).bind fun o=>
bif (decide ((E2 .u64 (IntKind.wrap .u64 (j+(1))) (7))>(3))) then (
(A0 o o).bind fun e=>
bif ((IntKind.wrap .u64 ((E2 .u64 (IntKind.wrap .u64 (j+(1))) (7))-(4)))==(1)) then (
(A0 4602678819172646912 e).bind fun hk=>
(D2 4607182418800017408 hk).bind fun hl=>
(A0 e e).bind fun hm=>
(A0 13666448263388469915 e).bind fun hn=>
(Be hn 4477121864728985349).bind fun ho=>
(A0 ho e).bind fun hp=>
(Be hp 13732177093698800582).bind fun hq=>
(A0 hq e).bind fun hr=>
(Be hr 4537941361668146421).bind fun hs=>
(A0 hs e).bind fun ht=>
(Be ht 13787419979223748497).bind fun hu=>
(A0 hu e).bind fun hv=>
(Be hv 4586165620538955083).bind fun hw=>
(A0 hm hw).bind fun hx=>
(Be hl hx).bind fun hy=>
some (Ic hy)) else (
bif ((IntKind.wrap .u64 ((E2 .u64 (IntKind.wrap .u64 (j+(1))) (7))-(4)))==(2)) then (
(A0 4602678819172646912 e).bind fun hz=>
(D2 4607182418800017408 hz).bind fun ia=>
(A0 e e).bind fun ib=>
(A0 13666448263388469915 e).bind fun ic=>
(Be ic 4477121864728985349).bind fun id=>
(A0 id e).bind fun ie=>
(Be ie 13732177093698800582).bind fun ig=>
(A0 ig e).bind fun ih=>
(Be ih 4537941361668146421).bind fun ii=>
(A0 ii e).bind fun ij=>
(Be ij 13787419979223748497).bind fun ik=>
(A0 ik e).bind fun il=>
(Be il 4586165620538955083).bind fun im=>
(A0 ib im).bind fun io=>
(Be ia io).bind fun ip=>
some (Ic ip)) else (
(A0 o e).bind fun ir=>
(A0 4460209587652500685 e).bind fun it=>
(Be it 13716528389658582877).bind fun iu=>
(A0 iu e).bind fun iv=>
(Be iv 4523617212962785441).bind fun iw=>
(A0 iw e).bind fun ix=>
(Be ix 13774824197404483331).bind fun iy=>
(A0 iy e).bind fun iz=>
(Be iz 4575957461383575504).bind fun ja=>
(A0 ja e).bind fun jb=>
(Be jb 13818544856648471880).bind fun jc=>
(A0 ir jc).bind fun jd=>
(Be o jd).bind fun je=>
some (Ic je)))) else (
(A0 o o).bind fun f=>
bif ((E2 .u64 (IntKind.wrap .u64 (j+(1))) (7))==(1)) then (
(A0 4602678819172646912 f).bind fun jf=>
(D2 4607182418800017408 jf).bind fun jg=>
(A0 f f).bind fun jh=>
(A0 13666448263388469915 f).bind fun ji=>
(Be ji 4477121864728985349).bind fun jj=>
(A0 jj f).bind fun jk=>
(Be jk 13732177093698800582).bind fun jl=>
(A0 jl f).bind fun jm=>
(Be jm 4537941361668146421).bind fun jn=>
(A0 jn f).bind fun jo=>
(Be jo 13787419979223748497).bind fun jp=>
(A0 jp f).bind fun jq=>
(Be jq 4586165620538955083).bind fun jr=>
(A0 jh jr).bind fun js=>
(Be jg js).bind fun jt=>
some (jt)) else (
bif ((E2 .u64 (IntKind.wrap .u64 (j+(1))) (7))==(2)) then (
(A0 4602678819172646912 f).bind fun ju=>
(D2 4607182418800017408 ju).bind fun jv=>
(A0 f f).bind fun jw=>
(A0 13666448263388469915 f).bind fun jx=>
(Be jx 4477121864728985349).bind fun jy=>
(A0 jy f).bind fun jz=>
(Be jz 13732177093698800582).bind fun ka=>
(A0 ka f).bind fun kb=>
(Be kb 4537941361668146421).bind fun kc=>
(A0 kc f).bind fun kd=>
(Be kd 13787419979223748497).bind fun ke=>
(A0 ke f).bind fun kf=>
(Be kf 4586165620538955083).bind fun kg=>
(A0 jw kg).bind fun ki=>
(Be jv ki).bind fun kj=>
some (kj)) else (
(A0 o f).bind fun kk=>
(A0 4460209587652500685 f).bind fun kl=>
(Be kl 13716528389658582877).bind fun km=>
(A0 km f).bind fun kn=>
(Be kn 4523617212962785441).bind fun ko=>
(A0 ko f).bind fun kp=>
(Be kp 13774824197404483331).bind fun kr=>
(A0 kr f).bind fun ks=>
(Be ks 4575957461383575504).bind fun kt=>
(A0 kt f).bind fun ku=>
(Be ku 13818544856648471880).bind fun kv=>
(A0 kk kv).bind fun kw=>
(Be o kw).bind fun kx=>
some (kx))))) else (
(A0 (Jn j) 4605249456957292544).bind fun ky=>
(D2 k ky).bind fun kz=>
(A0 (Jn j) 4495793288086814720).bind fun la=>
(D2 kz la).bind fun lb=>
(A0 (Jn j) 4388835458085048688).bind fun lc=>
(D2 lb lc).bind fun p=>
bif (decide ((E2 .u64 j (7))>(3))) then (
(A0 p p).bind fun g=>
bif ((IntKind.wrap .u64 ((E2 .u64 j (7))-(4)))==(1)) then (
(A0 4602678819172646912 g).bind fun ld=>
(D2 4607182418800017408 ld).bind fun lf=>
(A0 g g).bind fun lg=>
(A0 13666448263388469915 g).bind fun lh=>
(Be lh 4477121864728985349).bind fun li=>
(A0 li g).bind fun lj=>
(Be lj 13732177093698800582).bind fun ll=>
(A0 ll g).bind fun lm=>
(Be lm 4537941361668146421).bind fun ln=>
(A0 ln g).bind fun lo=>
(Be lo 13787419979223748497).bind fun lp=>
(A0 lp g).bind fun lq=>
(Be lq 4586165620538955083).bind fun lr=>
(A0 lg lr).bind fun ls=>
(Be lf ls).bind fun lu=>
some (Ic lu)) else (
bif ((IntKind.wrap .u64 ((E2 .u64 j (7))-(4)))==(2)) then (
(A0 4602678819172646912 g).bind fun lv=>
(D2 4607182418800017408 lv).bind fun lw=>
(A0 g g).bind fun lx=>
(A0 13666448263388469915 g).bind fun ly=>
(Be ly 4477121864728985349).bind fun lz=>
(A0 lz g).bind fun ma=>
(Be ma 13732177093698800582).bind fun mb=>
(A0 mb g).bind fun mc=>
(Be mc 4537941361668146421).bind fun md=>
(A0 md g).bind fun me=>
(Be me 13787419979223748497).bind fun mf=>
(A0 mf g).bind fun mg=>
(Be mg 4586165620538955083).bind fun mh=>
(A0 lx mh).bind fun mi=>
(Be lw mi).bind fun mj=>
some (Ic mj)) else (
(A0 p g).bind fun mk=>
(A0 4460209587652500685 g).bind fun ml=>
(Be ml 13716528389658582877).bind fun mm=>
(A0 mm g).bind fun mn=>
(Be mn 4523617212962785441).bind fun mo=>
(A0 mo g).bind fun mp=>
(Be mp 13774824197404483331).bind fun mq=>
(A0 mq g).bind fun mr=>
(Be mr 4575957461383575504).bind fun ms=>
(A0 ms g).bind fun mt=>
(Be mt 13818544856648471880).bind fun mu=>
(A0 mk mu).bind fun mv=>
(Be p mv).bind fun mw=>
some (Ic mw)))) else (
(A0 p p).bind fun h=>
bif ((E2 .u64 j (7))==(1)) then (
(A0 4602678819172646912 h).bind fun mx=>
(D2 4607182418800017408 mx).bind fun my=>
(A0 h h).bind fun mz=>
(A0 13666448263388469915 h).bind fun na=>
(Be na 4477121864728985349).bind fun nb=>
(A0 nb h).bind fun nc=>
(Be nc 13732177093698800582).bind fun nd=>
(A0 nd h).bind fun ne=>
(Be ne 4537941361668146421).bind fun ng=>
(A0 ng h).bind fun nh=>
(Be nh 13787419979223748497).bind fun ni=>
(A0 ni h).bind fun nj=>
(Be nj 4586165620538955083).bind fun nk=>
(A0 mz nk).bind fun nl=>
(Be my nl).bind fun nm=>
some (nm)) else (
bif ((E2 .u64 j (7))==(2)) then (
(A0 4602678819172646912 h).bind fun nn=>
(D2 4607182418800017408 nn).bind fun np=>
(A0 h h).bind fun nq=>
(A0 13666448263388469915 h).bind fun nr=>
(Be nr 4477121864728985349).bind fun ns=>
(A0 ns h).bind fun nt=>
(Be nt 13732177093698800582).bind fun nu=>
(A0 nu h).bind fun nv=>
(Be nv 4537941361668146421).bind fun nw=>
(A0 nw h).bind fun nx=>
(Be nx 13787419979223748497).bind fun ny=>
(A0 ny h).bind fun nz=>
(Be nz 4586165620538955083).bind fun oa=>
(A0 nq oa).bind fun ob=>
(Be np ob).bind fun oc=>
some (oc)) else (
(A0 p h).bind fun od=>
(A0 4460209587652500685 h).bind fun oe=>
(Be oe 13716528389658582877).bind fun of=>
(A0 of h).bind fun og=>
(Be og 4523617212962785441).bind fun oh=>
(A0 oh h).bind fun oi=>
(Be oi 13774824197404483331).bind fun oj=>
(A0 oj h).bind fun ok=>
(Be ok 4575957461383575504).bind fun ol=>
(A0 ol h).bind fun om=>
(Be om 13818544856648471880).bind fun on=>
(A0 od on).bind fun oo=>
(Be p oo).bind fun op=>
some (op))))))))))
abbrev rQ:=(Nat)
def g92 (n a:Nat):Option rQ:=
(h9 n a).bind fun b=>
some (b)
abbrev rF:=(Nat)
def g91 (n a:Nat):Option rF:=
(Vh .u64 (a:Int) (52)).bind fun b=>
bif (decide ((E2 .u64 b (2047))<(1023))) then (
bif ((E2 .u64 b (2047))==(1022)) then (
some (Int.toNat (bOr .u64 (E2 .u64 (a:Int) (9223372036854775808)) (4607182418800017408)))) else (
some (Int.toNat (E2 .u64 (a:Int) (9223372036854775808))))) else (
bif (decide ((E2 .u64 b (2047))<(1075))) then (
(Vh .u64 (2251799813685248) (IntKind.wrap .u64 ((E2 .u64 b (2047))-(1023)))).bind fun c=>
(Vh .u64 (4503599627370495) (IntKind.wrap .u64 ((E2 .u64 b (2047))-(1023)))).bind fun d=>
some (Int.toNat (G3 .u64 (IntKind.wrap .u64 ((a:Int)+c)) d))) else (
some (Int.toNat (a:Int))))
abbrev vS:=(Int)
def xT (n:Nat) (a:Int):Option vS:=
(Zi n a).bind fun b=>
(A0 (Jn b) 4614256656552045848).bind fun c=>
(I0 c 4656722014701092864).bind fun d=>
(g92 n d).bind fun e=>
(A0 4670232813583204352 e).bind fun f=>
(g91 n f).bind fun g=>
(Qd .i64 g).bind fun h=>
some (h)
abbrev rX:=(Int)
def xP (n:Nat) (a:Int):Option rX:=
(Zi n a).bind fun b=>
(xT n (IntKind.wrap .i64 (b+(1024)))).bind fun c=>
some (c)
abbrev rV:=(Bool)
def g88 (n a:Nat):Option rV:=
some (decide ((IntKind.wrap .i64 (a:Int))<(0)))
abbrev pN:=(Nat)
def Z8 (n a b:Nat):Option pN:=
some (Int.toNat (bOr .u64 (G3 .u64 (a:Int) (9223372036854775808)) (E2 .u64 (b:Int) (9223372036854775808))))
abbrev cW:=(Nat)
def Yz (n b:Nat):Option cW:=
(A0 b b).bind fun a=>
(A0 13829429103926125972 a).bind fun c=>
(Be c 13848613196940411002).bind fun d=>
(A0 d a).bind fun e=>
(Be e 13858350711815275123).bind fun f=>
(A0 f a).bind fun g=>
(Be g 13861719834326579749).bind fun h=>
(A0 h a).bind fun i=>
(Be i 13857635882265799822).bind fun j=>
(A0 a j).bind fun k=>
(Be a 4627690253511319612).bind fun l=>
(A0 l a).bind fun m=>
(Be m 4640010388282866213).bind fun o=>
(A0 o a).bind fun p=>
(Be p 4646322940342877755).bind fun q=>
(A0 q a).bind fun r=>
(Be r 4647246694406179306).bind fun s=>
(A0 s a).bind fun t=>
(Be t 4641049159275471596).bind fun u=>
(I0 k u).bind fun v=>
(A0 b v).bind fun w=>
(Be w b).bind fun x=>
some (x)
abbrev cC:=(Nat)
def aN (n a:Nat):Option cC:=
bif (pU a 4604119971053405471) then (
(Yz n a).bind fun b=>
some (b)) else (
bif (Uz a 4612618744449965542) then (
(I0 4607182418800017408 a).bind fun c=>
(Yz n c).bind fun d=>
(D2 4609753056924675352 d).bind fun e=>
(Be e 4364452196894661639).bind fun f=>
some (f)) else (
(D2 a 4607182418800017408).bind fun g=>
(Be a 4607182418800017408).bind fun h=>
(I0 g h).bind fun i=>
(Yz n i).bind fun j=>
(Be 4605249457297304856 j).bind fun k=>
(Be k 4359948597267291143).bind fun l=>
some (l)))
abbrev uU:=(Nat)
def g99 (n a:Nat):Option uU:=
bif (iN a 0) then (
some (a)) else (
bif (Uz a 0) then (
(aN n a).bind fun b=>
some (b)) else (
(aN n (Ic a)).bind fun c=>
some (Ic c)))
abbrev sI:=(Nat)
def g90 (n a:Nat):Option sI:=
(g99 n a).bind fun b=>
some (b)
abbrev pW:=(Nat)
def g75 (n a b:Nat):Option pW:=
(oQ n a).bind fun d=>
bif d then (
(g87 n).bind fun e=>
some (e)) else (
(oQ n b).bind fun f=>
bif f then (
(g87 n).bind fun g=>
some (g)) else (
bif (iN a 0) then (
bif (uX b 0) then (
(g88 n b).bind fun h=>
bif (!h) then (
(Z8 n 0 a).bind fun i=>
some (i)) else (
(Z8 n 4614256656552045848 a).bind fun j=>
some (j))) else (
(Z8 n 4614256656552045848 a).bind fun k=>
some (k))) else (
bif (iN b 0) then (
(Z8 n 4609753056924675352 a).bind fun l=>
some (l)) else (
(fV n b (0)).bind fun m=>
bif m then (
(fV n b (1)).bind fun o=>
bif o then (
(fV n a (0)).bind fun p=>
bif p then (
(Z8 n 4605249457297304856 a).bind fun q=>
some (q)) else (
(Z8 n 0 a).bind fun r=>
some (r))) else (
(fV n a (0)).bind fun s=>
bif s then (
(Z8 n 4612488097114038738 a).bind fun t=>
some (t)) else (
(Z8 n 4614256656552045848 a).bind fun u=>
some (u)))) else (
(fV n a (0)).bind fun v=>
bif v then (
(Z8 n 4609753056924675352 a).bind fun w=>
some (w)) else (
(I0 a b).bind fun x=>
(g90 n x).bind fun c=>
bif (xR b 0) then (
bif (pU c 0) then (
(Be c 4614256656552045848).bind fun y=>
some (y)) else (
(D2 c 4614256656552045848).bind fun z=>
some (z))) else (
some (c))))))))
abbrev vB:=(Nat)
def xV (n a b:Nat):Option vB:=
(g75 n a b).bind fun c=>
some (c)
abbrev vZ:=(Nat)
def g56 (n a:Nat):Option vZ:=
(Ou a).bind fun b=>
some (b)
abbrev tW:=(TP)
def iD (n:Nat) (a:Int):Option tW:=
(xT n a).bind fun b=>
(xP n a).bind fun c=>
some (⟨b,c⟩:TP)
abbrev vJ:=(Int)
def iR (n:Nat) (a b:TP):Option vJ:=
some (IntKind.wrap .i64 ((IntKind.wrap .i64 (a.Y*b.X))-(IntKind.wrap .i64 (a.X*b.Y))))
abbrev U2:=(Int×Int)
def Ms (n:Nat) (r h b c a:Int):Option ((Int)⊕U2):=
bif (decide (a<(4096))) then (
(Zi n (IntKind.wrap .i64 (h+a))).bind fun d=>
bif ((Int.tmod a (2))==(1)) then (
(Zi n (IntKind.wrap .i64 (h-a))).bind fun e=>
(iD n e).bind fun f=>
(iD n (IntKind.wrap .i64 (e+(1)))).bind fun m=>
(iR n f (⟨b,c⟩:TP)).bind fun i=>
(iR n (⟨b,c⟩:TP) m).bind fun j=>
bif (decide (i≥(0))) then (
bif (decide (j>(0))) then (
bif (decide ((IntKind.wrap .i64 ((IntKind.wrap .i64 (f.X*b))+(IntKind.wrap .i64 (f.Y*c))))>(0))) then (
bif (decide (i≤j)) then (
some (.inr (e,(0)))) else (
(Zi n (IntKind.wrap .i64 (e+(1)))).bind fun o=>
some (.inr (o,(0))))) else (
some (.inl (IntKind.wrap .i64 (a+(1)))))) else (
some (.inl (IntKind.wrap .i64 (a+(1)))))) else (
some (.inl (IntKind.wrap .i64 (a+(1)))))) else (
(iD n d).bind fun g=>
(iD n (IntKind.wrap .i64 (d+(1)))).bind fun p=>
(iR n g (⟨b,c⟩:TP)).bind fun k=>
(iR n (⟨b,c⟩:TP) p).bind fun l=>
bif (decide (k≥(0))) then (
bif (decide (l>(0))) then (
bif (decide ((IntKind.wrap .i64 ((IntKind.wrap .i64 (g.X*b))+(IntKind.wrap .i64 (g.Y*c))))>(0))) then (
bif (decide (k≤l)) then (
some (.inr (d,(0)))) else (
(Zi n (IntKind.wrap .i64 (d+(1)))).bind fun q=>
some (.inr (q,(0))))) else (
some (.inl (IntKind.wrap .i64 (a+(1)))))) else (
some (.inl (IntKind.wrap .i64 (a+(1)))))) else (
some (.inl (IntKind.wrap .i64 (a+(1))))))) else (
some (.inr ((0),(0))))
def g41 (n:Nat) (a:TP):Option U2:=
bif (decide (a.X<(-2000000))) then (
some ((0),(4))) else (
bif (decide (a.X>(2000000))) then (
some ((0),(4))) else (
bif (decide (a.Y<(-2000000))) then (
some ((0),(4))) else (
bif (decide (a.Y>(2000000))) then (
some ((0),(4))) else (
bif (a.X==(0)) then (
bif (a.Y==(0)) then (
some ((0),(10))) else (
(xV n (Jn a.X) (Jn a.Y)).bind fun b=>
(A0 b 4656722014701092864).bind fun c=>
(I0 c 4614256656552045848).bind fun d=>
(g56 n d).bind fun e=>
(Qd .i64 e).bind fun f=>
Bt (fun y:Int=>Ms n (0) f a.X a.Y y) n (0))) else (
(xV n (Jn a.X) (Jn a.Y)).bind fun g=>
(A0 g 4656722014701092864).bind fun h=>
(I0 h 4614256656552045848).bind fun i=>
(g56 n i).bind fun j=>
(Qd .i64 j).bind fun k=>
Bt (fun y:Int=>Ms n (0) k a.X a.Y y) n (0))))))
abbrev ρ4:=Bool
def g4 (n:Nat):Option ρ4:=some true
abbrev Ad9:=Int
def Px (a b:Int):Option Int:=(Js (IntKind.wrap .i64 (a+IntKind.wrap .i64 (Int.tdiv b 2))) b).bind fun q=>some (IntKind.wrap .i64 q)
def g81 (n:Nat) (a b:Int):Option Ad9:=
bif decide (a<0) then (bif decide (IntKind.wrap .i64 (0-a)<0) then none else (Px (IntKind.wrap .i64 (0-a)) b).bind fun z=>some (IntKind.wrap .i64 (0-z))) else Px a b
abbrev vW:=(TP×Int)
def g66 (n:Nat) (b a:Int):Option vW:=
bif (decide (a<(0))) then (
some ((⟨0,0⟩:TP),(4))) else (
bif (decide (a>(2000000))) then (
some ((⟨0,0⟩:TP),(4))) else (
(xT n b).bind fun c=>
(g81 n (IntKind.wrap .i64 (a*c)) (16384)).bind fun d=>
(xP n b).bind fun e=>
(g81 n (IntKind.wrap .i64 (a*e)) (16384)).bind fun f=>
some ((⟨d,f⟩:TP),(0))))
abbrev wL:=(Bool)
def Y7 (n:Nat) (c:Int) (c6:Bool) (d:List (List Ab)) (e b:Int):Option ((Int)⊕wL):=
bif (decide (b<e)) then (
(Dq d b).bind fun a=>
(K7 n a).bind fun f=>
bif (f !=(0)) then (
some (.inr (false))) else (
(Dq a (IntKind.wrap .i64 ((a.length:Int)-(1)))).bind fun g=>
(Dq a (0)).bind fun h=>
bif (decide ((IntKind.wrap .i64 (g.Ac-h.Ac))>c)) then (
some (.inr (false))) else (
some (.inl (IntKind.wrap .i64 (b+(1))))))) else (
some (.inr (true)))
def g5 (n:Nat) (a:List (List Ab)) (b c:Int):Option wL:=
bif (decide ((a.length:Int)>b)) then (
some (false)) else (
Bt (fun y:Int=>Y7 n c false a (a.length:Int) y) n (0))
abbrev Wc:=(Int)
def Ka (n:Nat) (b:List (List Ab)) (c c6 Uv a:Int):Option ((Int)⊕Wc):=
bif (decide (a<Uv)) then (
(Dq b a).bind fun e=>
(K7 n e).bind fun d=>
bif (d !=(0)) then (
some (.inr (d))) else (
some (.inl (IntKind.wrap .i64 (a+(1)))))) else (
bif (decide (c<(0))) then (
some (.inr (4))) else (
bif (decide (c≥(b.length:Int))) then (
some (.inr (4))) else (
some (.inr (0)))))
def g18 (n:Nat) (a:List (List Ab)) (c:Int) (d:Ea):Option Wc:=
(fX n d).bind fun b=>
bif (b !=(0)) then (
some (b)) else (
bif (decide ((a.length:Int)>(24))) then (
some (2)) else (
Bt (fun y:Int=>Ka n a c (0) (a.length:Int) y) n (0)))
abbrev Vx:=(Bool)
def Mr (n:Nat) (e:Bool) (c:List UInt8) (d a:Int):Option ((Int)⊕Vx):=
bif (decide (a<d)) then (
(Dq c a).bind fun b=>
bif (decide ((b.toNat:Int)≥(65))) then (
bif (decide ((b.toNat:Int)≤(90))) then (
some (.inl (IntKind.wrap .i64 (a+(1))))) else (
bif (decide (a>(0))) then (
bif (decide ((b.toNat:Int)≥(48))) then (
bif (!(decide ((b.toNat:Int)≤(57)))) then (
some (.inr (false))) else (
some (.inl (IntKind.wrap .i64 (a+(1)))))) else (
some (.inr (false)))) else (
some (.inr (false))))) else (
bif (decide (a>(0))) then (
bif (decide ((b.toNat:Int)≥(48))) then (
bif (!(decide ((b.toNat:Int)≤(57)))) then (
some (.inr (false))) else (
some (.inl (IntKind.wrap .i64 (a+(1)))))) else (
some (.inr (false)))) else (
some (.inr (false))))) else (
some (.inr (true)))
def g37 (n:Nat) (a:ByteArray):Option Vx:=
bif (decide ((a.size:Int)<(1))) then (
some (false)) else (
bif (decide ((a.size:Int)>(8))) then (
some (false)) else (
(Fc a.size 1).bind fun b=>
Bt (fun y:Int=>Mr n false (a.data.toList) ((a.data.toList).length:Int) y) n (0)))
abbrev uF:=(Bool)
def oP (n:Nat) (a b:Int):Option uF:=
bif (decide (a<(1))) then (
some (true)) else (
some (decide (a>b)))
abbrev sK:=(Int)
def gN (n:Nat) (a:Dm):Option sK:=
(g37 n a.Name).bind fun b=>
bif (!b) then (
some (5)) else (
bif (decide (a.D9<(0))) then (
some (1)) else (
bif (decide (a.D9>(3))) then (
some (1)) else (
(oP n a.B6 (60000)).bind fun c=>
bif c then (
some (4)) else (
(oP n a.C1 (200)).bind fun d=>
bif d then (
some (4)) else (
(oP n a.Ca (200)).bind fun e=>
bif e then (
some (4)) else (
(oP n a.Dy (400)).bind fun f=>
bif f then (
some (4)) else (
(oP n a.Dz (400)).bind fun g=>
bif g then (
some (4)) else (
bif (decide (a.Dy>a.Dz)) then (
some (3)) else (
some (0))))))))))
abbrev Ww:=(Int)
def P9 (n:Nat) (b:List ByteArray) (c:ByteArray) (e c7 a:Int):Option ((Int)⊕Ww):=
bif (decide (a<c7)) then (
(Dq b a).bind fun d=>
bif ((c).toList==(d).toList) then (
some (.inr (a))) else (
some (.inl (IntKind.wrap .i64 (a+(1)))))) else (
some (.inr (-1)))
def g71 (n:Nat) (a:List ByteArray) (b:ByteArray):Option Ww:=
Bt (fun y:Int=>P9 n a b (0) (a.length:Int) y) n (0)
abbrev w6:=(Int)
def g55 (n:Nat) (a:ByteArray):Option w6:=
(g71 n ([(⟨#[72,69,73,71,72,84]⟩:ByteArray),(⟨#[72,69,65,68,73,78,71]⟩:ByteArray),(⟨#[83,80,69,69,68]⟩:ByteArray),(⟨#[68,73,82,69,67,84]⟩:ByteArray),(⟨#[72,79,76,68]⟩:ByteArray),(⟨#[67,79,78,84,65,67,84]⟩:ByteArray),(⟨#[76,65,78,68]⟩:ByteArray)]:List ByteArray) a).bind fun b=>
some (b)
abbrev xE:=(Bool)
def qE (n:Nat) (a:ByteArray):Option xE:=
(g37 n a).bind fun b=>
bif b then (
(g55 n a).bind fun c=>
some (decide (c<(0)))) else (
some (false))
abbrev qS:=(Int)
def iT (n:Nat) (a:Ae):Option qS:=
(qE n a.Call).bind fun b=>
bif (!b) then (
some (3)) else (
bif (decide (a.Kind<(0))) then (
some (1)) else (
bif (decide (a.Kind>(6))) then (
some (1)) else (
bif (decide (a.Kind>(2))) then (
bif (a.Value !=(0)) then (
some (3)) else (
(qE n a.Fix).bind fun c=>
bif (!c) then (
some (3)) else (
some (0)))) else (
bif (!((a.Fix).toList==((⟨#[]⟩:ByteArray)).toList)) then (
some (3)) else (
bif (decide (a.Value<(0))) then (
some (4)) else (
(Dq ([60000,4095,400]:List Int) a.Kind).bind fun d=>
bif (decide (a.Value>d)) then (
some (4)) else (
some (0))))))))
abbrev Wo:=(Int×Int×Bool)
def Rn (n:Nat) (l:Int) (c6:Bool) (g:List Ab) (h c d e m o p b:Int):Option ((Int)⊕Wo):=
bif (decide (b<h)) then (
(Dq g b).bind fun a=>
bif (decide (a.Ac>c)) then (
(zR n (⟨a.Ak,a.Aj⟩:TP) (⟨d,e⟩:TP)).bind fun i=>
(g41 n i).bind fun f=>
(aG n (⟨d,e⟩:TP) (⟨a.Ak,a.Aj⟩:TP)).bind fun j=>
(Js j.1 (IntKind.wrap .i64 (a.Ac-c))).bind fun k=>
some (.inr (f.1,IntKind.wrap .i64 k,(f.2==(0))))) else (
some (.inl (IntKind.wrap .i64 (b+(1)))))) else (
some (.inr ((0),0,false)))
def g23 (n:Nat) (b:List Ab) (a:Ab):Option Wo:=
Bt (fun y:Int=>Rn n (0) false b (b.length:Int) a.Ac a.Ak a.Aj a.Ad a.Ay a.Br y) n (0)
abbrev Qs:=((List Ae)×Int)
def Kn (n:Nat) (c9 i j:Int) (Gx:Bool) (e f g:Int) (k:ByteArray) (l m o p q r s t u v w x b:Int) (c:List Ae) (a:ByteArray):Option ((Int×List Ae×ByteArray)⊕((Int×List Ae×ByteArray)⊕Qs)):=
bif (decide (b<(2))) then (
(Dq ([f,g]:List Int) b).bind fun h=>
(Zi n h).bind fun d=>
(Fc (c.length+([(⟨a,1,d,(⟨#[]⟩:ByteArray)⟩:Ae)]:List Ae).length) 48).bind fun y=>
some (.inl ((IntKind.wrap .i64 (b+(1))),c++([(⟨a,1,d,(⟨#[]⟩:ByteArray)⟩:Ae)]:List Ae),a))) else (
some (.inr (.inl ((IntKind.wrap .i64 (e+(1))),c,a))))
def Ko (n:Nat) (c9 e i:Int) (Gx:Bool) (f j k:Int) (l:ByteArray) (m o p q g h r s t u v w b:Int) (c:List Ae) (a:ByteArray):Option ((Int×List Ae×ByteArray)⊕((Int×List Ae×ByteArray)⊕Qs)):=
bif (decide (b<(2))) then (
(Dq ([j,k]:List Int) b).bind fun d=>
bif (decide (d≥g)) then (
bif (decide (d≤h)) then (
(Fc (c.length+([(⟨a,2,d,(⟨#[]⟩:ByteArray)⟩:Ae)]:List Ae).length) 48).bind fun x=>
some (.inl ((IntKind.wrap .i64 (b+(1))),c++([(⟨a,2,d,(⟨#[]⟩:ByteArray)⟩:Ae)]:List Ae),a))) else (
some (.inl ((IntKind.wrap .i64 (b+(1))),c,a)))) else (
some (.inl ((IntKind.wrap .i64 (b+(1))),c,a)))) else (
((Bt (fun y:Int×List Ae×ByteArray=>Kn n c9 e i Gx f (IntKind.wrap .i64 (e+(IntKind.wrap .i64 ((171)*f)))) (IntKind.wrap .i64 (e-(IntKind.wrap .i64 ((171)*f)))) l m o p q g h r s t u v w y.1 y.2.1 y.2.2) n ((0),c,a)).map Sum.inr))
def Jw (n:Nat) (c9 h f:Int) (Gx:Bool) (d i j:Int) (k:ByteArray) (l g m o p q r s t u v w c:Int) (b:List Ae) (a:ByteArray):Option ((Int×List Ae×ByteArray)⊕((Int×List Ae×ByteArray)⊕Qs)):=
bif (decide (c<(2))) then (
(Dq ([i,j]:List Int) c).bind fun e=>
bif (decide (e≥(0))) then (
bif (decide (e≤g)) then (
(Fc (b.length+([(⟨a,0,e,(⟨#[]⟩:ByteArray)⟩:Ae)]:List Ae).length) 48).bind fun x=>
some (.inl ((IntKind.wrap .i64 (c+(1))),b++([(⟨a,0,e,(⟨#[]⟩:ByteArray)⟩:Ae)]:List Ae),a))) else (
some (.inl ((IntKind.wrap .i64 (c+(1))),b,a)))) else (
some (.inl ((IntKind.wrap .i64 (c+(1))),b,a)))) else (
bif (!Gx) then (
some (.inr (.inl ((IntKind.wrap .i64 (d+(1))),b,a)))) else (
((Bt (fun y:Int×List Ae×ByteArray=>Ko n c9 h f Gx d (IntKind.wrap .i64 (f+(IntKind.wrap .i64 ((15)*d)))) (IntKind.wrap .i64 (f-(IntKind.wrap .i64 ((15)*d)))) k l g m o p q r s t u v w y.1 y.2.1 y.2.2) n ((0),b,a)).map Sum.inr)))
def Wd (n:Nat) (c9 d e:Int) (Gx:Bool) (f:ByteArray) (g h i j k l m o p b q r a:Int) (c:List Ae) (s:ByteArray):Option ((Int×List Ae×ByteArray)⊕Qs):=
bif (decide (a≤(3))) then (
Bt (fun y:Int×List Ae×ByteArray=>Jw n c9 d e Gx a (IntKind.wrap .i64 (b+(IntKind.wrap .i64 ((1000)*a)))) (IntKind.wrap .i64 (b-(IntKind.wrap .i64 ((1000)*a)))) f g h i j k l m o p b q r y.1 y.2.1 y.2.2) n ((0),c,s)) else (
some (.inr (c,(0))))
def g7 (n:Nat) (e:ByteArray) (c:List Ab) (i:Int) (b:Dm):Option Qs:=
(K7 n c).bind fun f=>
bif (f !=(0)) then (
some ([],f)) else (
(gN n b).bind fun g=>
bif (g !=(0)) then (
some ([],g)) else (
(P4 n c i).bind fun a=>
bif (a.2 !=(0)) then (
some ([],a.2)) else (
(iT n (⟨e,0,0,(⟨#[]⟩:ByteArray)⟩:Ae)).bind fun h=>
bif (h !=(0)) then (
some ([],h)) else (
(g23 n c a.1).bind fun d=>
Bt (fun y:Int×List Ae×ByteArray=>Wd n (0) d.1 d.2.1 d.2.2 b.Name b.D9 b.B6 b.C1 b.Ca b.Dy b.Dz a.1.Ac a.1.Ak a.1.Aj a.1.Ad a.1.Ay a.1.Br y.1 y.2.1 y.2.2) n ((1),[],e)))))
abbrev Vi:=(Bool)
def Ld (n:Nat) (b:Int) (c:List Ab) (c8:Bool) (d:List (List Ab)) (e f g a:Int):Option ((Int)⊕Vi):=
bif (decide (a<e)) then (
(Dq d a).bind fun h=>
bif (a !=b) then (
(lZ n c h (⟨f,g⟩:Ea)).bind fun i=>
bif (i.2==(0)) then (
some (.inr (false))) else (
some (.inl (IntKind.wrap .i64 (a+(1)))))) else (
some (.inl (IntKind.wrap .i64 (a+(1)))))) else (
some (.inr (true)))
def yI (n:Nat) (a:List (List Ab)) (c:Int) (d:List Ab) (b:Ea):Option Vi:=
Bt (fun y:Int=>Ld n c d false a (a.length:Int) b.Bu b.Bj y) n (0)
abbrev sE:=(Int)
def g26 (n:Nat) (a:List Ab):Option sE:=
(K7 n a).bind fun b=>
some (b)
abbrev tK:=(Int)
def g27 (n:Nat) (a:ByteArray) (b c:Int) (d:ByteArray):Option tK:=
(iT n (⟨a,b,c,d⟩:Ae)).bind fun e=>
some (e)
abbrev pB:=(Int)
def g28 (n:Nat) (a:ByteArray) (b c d e f g:Int):Option pB:=
(gN n (⟨a,b,c,d,e,f,g⟩:Dm)).bind fun h=>
some (h)
abbrev w4:=(Int)
def g29 (n:Nat) (a b:Int):Option w4:=
(Qy n (⟨a,b⟩:TP)).bind fun c=>
some (c)
abbrev wK:=(Int×Int)
def qK (n:Nat) (c:Dm) (a b:Int):Option wK:=
(gN n c).bind fun d=>
bif (d !=(0)) then (
some ((0),d)) else (
bif (decide (a<(0))) then (
some ((0),(4))) else (
bif (decide (a>(60000))) then (
some ((0),(4))) else (
bif (decide (b<(0))) then (
some ((0),(4))) else (
bif (decide (b>(60000))) then (
some ((0),(4))) else (
bif (decide (a>c.B6)) then (
some ((0),(20))) else (
bif (decide (b>c.B6)) then (
some ((0),(20))) else (
bif (decide (b≥a)) then (
(W1 n (IntKind.wrap .i64 (b-a)) c.C1).bind fun e=>
some (e.1,e.2)) else (
(W1 n (IntKind.wrap .i64 (a-b)) c.Ca).bind fun f=>
some (f.1,f.2)))))))))
abbrev u9:=(Bool)
def g64 (n:Nat) (a:Ab) (b:Int):Option u9:=
some (decide (a.Ac≥b))
abbrev Wu:=(Int)
def Pu (n:Nat) (b:List Ab) (c f c7 a:Int):Option ((Int)⊕Wu):=
bif (decide (a<c7)) then (
(Dq b a).bind fun d=>
(g64 n d c).bind fun e=>
bif e then (
some (.inr (a))) else (
some (.inl (IntKind.wrap .i64 (a+(1)))))) else (
some (.inr (-1)))
def g63 (n:Nat) (a:List Ab) (b:Int):Option Wu:=
Bt (fun y:Int=>Pu n a b (0) (a.length:Int) y) n (0)
abbrev U9:=((List Ab)×Int)
def Kg (n:Nat) (c3 f W3:Int) (j:ByteArray) (k d:Int) (l:ByteArray) (m o:List Ab) (g p q e r s:Int) (t:ByteArray) (u v w x y z aa ab:Int) (ad:List Ab) (h b:Int) (c:List Ab):Option ((Int×List Ab)⊕U9):=
bif (decide (b<W3)) then (
(Dq c b).bind fun a=>
bif (decide (a.Ac≥h)) then (
some (.inl ((IntKind.wrap .i64 (b+(1))),(c.set ((b:Int).toNat) (⟨a.Ac,a.Ak,a.Aj,d,a.Ay,a.Br⟩:Ab))))) else (
(Zh n (IntKind.wrap .i64 ((IntKind.wrap .i64 (d-e))*(IntKind.wrap .i64 (a.Ac-g)))) f).bind fun i=>
some (.inl ((IntKind.wrap .i64 (b+(1))),(c.set ((b:Int).toNat) (⟨a.Ac,a.Ak,a.Aj,IntKind.wrap .i64 (e+i.1),a.Ay,a.Br⟩:Ab)))))) else (
some (.inr (c,(0))))
def iU (n:Nat) (a:Fj):Option U9:=
(qK n (⟨a.B2,a.B3,a.Bf,a.Bs,a.Bg,a.By,a.Bw⟩:Dm) a.Au a.Ar).bind fun b=>
bif (b.2 !=(0)) then (
some ([],b.2)) else (
(Fc a.later.length 48).bind fun h=>
bif (decide (b.1>(0))) then (
bif (decide ((a.later.length:Int)>(0))) then (
(Dq a.later (IntKind.wrap .i64 ((a.later.length:Int)-(1)))).bind fun e=>
bif (decide ((IntKind.wrap .i64 (a.Ap+b.1))<e.Ac)) then (
(g63 n a.later (IntKind.wrap .i64 (a.Ap+b.1))).bind fun c=>
(Dq a.later c).bind fun f=>
bif (f.Ac !=(IntKind.wrap .i64 (a.Ap+b.1))) then (
(P4 n a.whole (IntKind.wrap .i64 (a.Ap+b.1))).bind fun g=>
(iE 48 a.later c ([g.1]:List Ab)).bind fun d=>
Bt (fun y:Int×List Ab=>Kg n (0) b.1 (d.length:Int) a.A7 a.A3 a.Ar a.Ba a.before a.later a.Ap a.A5 a.A6 a.Au a.Bm a.B8 a.B2 a.B3 a.Bf a.Bs a.Bg a.By a.Bw a.Df a.Dg a.whole (IntKind.wrap .i64 (a.Ap+b.1)) y.1 y.2) n ((0),d)) else (
Bt (fun y:Int×List Ab=>Kg n (0) b.1 (a.later.length:Int) a.A7 a.A3 a.Ar a.Ba a.before a.later a.Ap a.A5 a.A6 a.Au a.Bm a.B8 a.B2 a.B3 a.Bf a.Bs a.Bg a.By a.Bw a.Df a.Dg a.whole (IntKind.wrap .i64 (a.Ap+b.1)) y.1 y.2) n ((0),a.later))) else (
Bt (fun y:Int×List Ab=>Kg n (0) b.1 (a.later.length:Int) a.A7 a.A3 a.Ar a.Ba a.before a.later a.Ap a.A5 a.A6 a.Au a.Bm a.B8 a.B2 a.B3 a.Bf a.Bs a.Bg a.By a.Bw a.Df a.Dg a.whole (IntKind.wrap .i64 (a.Ap+b.1)) y.1 y.2) n ((0),a.later))) else (
Bt (fun y:Int×List Ab=>Kg n (0) b.1 (a.later.length:Int) a.A7 a.A3 a.Ar a.Ba a.before a.later a.Ap a.A5 a.A6 a.Au a.Bm a.B8 a.B2 a.B3 a.Bf a.Bs a.Bg a.By a.Bw a.Df a.Dg a.whole (IntKind.wrap .i64 (a.Ap+b.1)) y.1 y.2) n ((0),a.later))) else (
Bt (fun y:Int×List Ab=>Kg n (0) b.1 (a.later.length:Int) a.A7 a.A3 a.Ar a.Ba a.before a.later a.Ap a.A5 a.A6 a.Au a.Bm a.B8 a.B2 a.B3 a.Bf a.Bs a.Bg a.By a.Bw a.Df a.Dg a.whole (IntKind.wrap .i64 (a.Ap+b.1)) y.1 y.2) n ((0),a.later)))
abbrev qU:=(Int)
def g67 (n:Nat) (a:Fj):Option qU:=
(Dq a.later (0)).bind fun b=>
(aG n (⟨a.A5,a.A6⟩:TP) (⟨b.Ak,b.Aj⟩:TP)).bind fun c=>
(Dq a.later (0)).bind fun d=>
(Js c.1 (IntKind.wrap .i64 (d.Ac-a.Ap))).bind fun e=>
some (IntKind.wrap .i64 e)
abbrev uI:=(TP)
def g68 (n:Nat) (a b:TP):Option uI:=
some (⟨IntKind.wrap .i64 (a.X+b.X),IntKind.wrap .i64 (a.Y+b.Y)⟩:TP)
abbrev Wt:=((List Ab)×Int)
def N3 (n:Nat) (c3 l:Int) (m:ByteArray) (o f:Int) (p:ByteArray) (q r:List Ab) (g h i s t u:Int) (v:ByteArray) (w x y z aa ab ad ae:Int) (af:List Ab) (b:Int) (c:List Ab):Option ((Int×List Ab)⊕Wt):=
bif (decide (b<l)) then (
(g67 n (⟨m,o,f,p,q,r,g,h,i,s,t,u,v,w,x,y,z,aa,ab,ad,ae,af⟩:Fj)).bind fun ag=>
(Dq c b).bind fun ah=>
(g66 n f (IntKind.wrap .i64 (ag*(IntKind.wrap .i64 (ah.Ac-g))))).bind fun e=>
bif (e.2 !=(0)) then (
some (.inr ([],e.2))) else (
(g68 n (⟨h,i⟩:TP) e.1).bind fun d=>
(Dq c b).bind fun a=>
(Dq (c.set ((b:Int).toNat) (⟨a.Ac,d.X,d.Y,a.Ad,a.Ay,a.Br⟩:Ab)) b).bind fun j=>
(Qy n (⟨j.Ak,j.Aj⟩:TP)).bind fun k=>
bif (k !=(0)) then (
some (.inr ([],k))) else (
some (.inl ((IntKind.wrap .i64 (b+(1))),(c.set ((b:Int).toNat) (⟨a.Ac,d.X,d.Y,a.Ad,a.Ay,a.Br⟩:Ab))))))) else (
some (.inr (c,(0))))
def g45 (n:Nat) (a:Fj):Option Wt:=
(Fc a.later.length 48).bind fun b=>
Bt (fun y:Int×List Ab=>N3 n (0) (a.later.length:Int) a.A7 a.A3 a.Ar a.Ba a.before a.later a.Ap a.A5 a.A6 a.Au a.Bm a.B8 a.B2 a.B3 a.Bf a.Bs a.Bg a.By a.Bw a.Df a.Dg a.whole y.1 y.2) n ((0),a.later)
abbrev U7:=((List Ab)×Int)
def N6 (n:Nat) (c3 So:Int) (m:ByteArray) (o h:Int) (p:ByteArray) (q r:List Ab) (s t u v w x:Int) (y:ByteArray) (z aa ab ad ae af ag ah:Int) (ai:List Ab) (b:Int) (c:List Ab) (f i j aj ak al:Int):Option ((Int×List Ab×Int×Int×Int×Int×Int×Int)⊕U7):=
bif (decide (b<So)) then (
(Dq c b).bind fun g=>
(aG n (⟨i,j⟩:TP) (⟨g.Ak,g.Aj⟩:TP)).bind fun k=>
(W1 n k.2 h).bind fun d=>
(Dq c b).bind fun a=>
(Dq (c.set ((b:Int).toNat) (⟨IntKind.wrap .i64 (f+(if d.1>(1) then d.1 else (1))),a.Ak,a.Aj,a.Ad,a.Ay,a.Br⟩:Ab)) b).bind fun l=>
bif (decide (l.Ac>(200000))) then (
some (.inr ([],(12)))) else (
(Dq (c.set ((b:Int).toNat) (⟨IntKind.wrap .i64 (f+(if d.1>(1) then d.1 else (1))),a.Ak,a.Aj,a.Ad,a.Ay,a.Br⟩:Ab)) b).bind fun e=>
some (.inl ((IntKind.wrap .i64 (b+(1))),c.set ((b:Int).toNat) (⟨IntKind.wrap .i64 (f+(if d.1>(1) then d.1 else (1))),a.Ak,a.Aj,a.Ad,a.Ay,a.Br⟩:Ab),e.Ac,e.Ak,e.Aj,e.Ad,e.Ay,e.Br)))) else (
some (.inr (c,(0))))
def g46 (n:Nat) (a:Fj):Option U7:=
bif (decide (a.Ar<a.By)) then (
some ([],(4))) else (
bif (decide (a.Ar>a.Bw)) then (
some ([],(4))) else (
(Fc a.later.length 48).bind fun b=>
Bt (fun y:Int×List Ab×Int×Int×Int×Int×Int×Int=>N6 n (0) (a.later.length:Int) a.A7 a.A3 a.Ar a.Ba a.before a.later a.Ap a.A5 a.A6 a.Au a.Bm a.B8 a.B2 a.B3 a.Bf a.Bs a.Bg a.By a.Bw a.Df a.Dg a.whole y.1 y.2.1 y.2.2.1 y.2.2.2.1 y.2.2.2.2.1 y.2.2.2.2.2.1 y.2.2.2.2.2.2.1 y.2.2.2.2.2.2.2) n ((0),a.later,a.Ap,a.A5,a.A6,a.Au,a.Bm,a.B8)))
abbrev tL:=((List Ab)×Int)
def g47 (n:Nat) (a:Fj):Option tL:=
(g67 n a).bind fun b=>
bif (b==(0)) then (
some ([],(10))) else (
(aG n (⟨a.A5,a.A6⟩:TP) (⟨a.Df,a.Dg⟩:TP)).bind fun c=>
bif (c.2==(0)) then (
some ([],(0))) else (
(W1 n c.2 b).bind fun d=>
bif (decide ((IntKind.wrap .i64 (a.Ap+d.1))>(200000))) then (
some ([],(12))) else (
some (([(⟨IntKind.wrap .i64 (a.Ap+d.1),a.Df,a.Dg,a.Au,a.Bm,a.B8⟩:Ab)]:List Ab),(0)))))
abbrev w9:=((List Ab)×Bool×Int)
def pE (n:Nat) (a:Fj):Option w9:=
bif (a.A3==(0)) then (
(iU n a).bind fun b=>
some (b.1,false,b.2)) else (
bif ((a.later.length:Int)==(0)) then (
some ([],true,(0))) else (
bif (a.A3==(1)) then (
(g45 n a).bind fun c=>
some (c.1,false,c.2)) else (
bif (a.A3==(2)) then (
(g46 n a).bind fun d=>
some (d.1,false,d.2)) else (
bif (a.A3==(3)) then (
(g47 n a).bind fun e=>
some (e.1,false,e.2)) else (
some ([],true,(0)))))))
abbrev eH:=((List Ab)×Int)
def Vm (n:Nat) (a2 ai aj:Int) (a0:List Ab) (fY ab ad ae af ag ah d:Int) (b c:List Ab) (e:ByteArray) (f g:Int) (h:ByteArray) (i j k l m o:Int) (p:ByteArray) (q r s t u v w x:Int) (y:List Ab):Option ((Int×List Ab×List Ab×ByteArray×Int×Int×ByteArray×Int×Int×Int×Int×Int×Int×ByteArray×Int×Int×Int×Int×Int×Int×Int×Int×List Ab)⊕eH):=
bif (decide (d<fY)) then (
(Dq a0 d).bind fun a=>
bif (decide (a.Ac<a2)) then (
(Fc (b.length+([a]:List Ab).length) 48).bind fun ak=>
bif (decide (a.Ac>a2)) then (
(Fc (c.length+([a]:List Ab).length) 48).bind fun al=>
some (.inl ((IntKind.wrap .i64 (d+(1))),b++([a]:List Ab),c++([a]:List Ab),e,f,g,h,i,j,k,l,m,o,p,q,r,s,t,u,v,w,x,y))) else (
some (.inl ((IntKind.wrap .i64 (d+(1))),b++([a]:List Ab),c,e,f,g,h,i,j,k,l,m,o,p,q,r,s,t,u,v,w,x,y)))) else (
bif (decide (a.Ac>a2)) then (
(Fc (c.length+([a]:List Ab).length) 48).bind fun am=>
some (.inl ((IntKind.wrap .i64 (d+(1))),b,c++([a]:List Ab),e,f,g,h,i,j,k,l,m,o,p,q,r,s,t,u,v,w,x,y))) else (
some (.inl ((IntKind.wrap .i64 (d+(1))),b,c,e,f,g,h,i,j,k,l,m,o,p,q,r,s,t,u,v,w,x,y))))) else (
(pE n (⟨e,f,g,h,b,c,i,j,k,l,m,o,p,q,r,s,t,u,v,w,x,y⟩:Fj)).bind fun z=>
bif (z.2.2 !=(0)) then (
some (.inr ([],z.2.2))) else (
bif z.2.1 then (
(Fc a0.length 48).bind fun an=>
some (.inr (a0,(0)))) else (
(R8 48 ([b,([(⟨ab,ad,ae,af,ag,ah⟩:Ab)]:List Ab),z.1]:List (List Ab))).bind fun aa=>
bif (decide ((aa.length:Int)>(64))) then (
some (.inr ([],(2)))) else (
some (.inr (aa,(0)))))))
def Lq (n:Nat) (d w Qh:Int) (c:List Ab) (e:ByteArray) (f g:Int) (h i:ByteArray) (j k l m o p q r b:Int):Option ((Int)⊕eH):=
bif (decide (b<Qh)) then (
bif (b==(0:Int)) then (
(g26 n c).bind fun s=>
bif (s !=(0)) then (
some (.inr ([],s))) else (
some (.inl (IntKind.wrap .i64 (b+(1)))))) else (
bif (b==(1:Int)) then (
(g27 n e f g h).bind fun t=>
bif (t !=(0)) then (
some (.inr ([],t))) else (
some (.inl (IntKind.wrap .i64 (b+(1)))))) else (
bif (b==(2:Int)) then (
(g28 n i j k l m o p).bind fun u=>
bif (u !=(0)) then (
some (.inr ([],u))) else (
some (.inl (IntKind.wrap .i64 (b+(1)))))) else (
bif (b==(3:Int)) then (
(g29 n q r).bind fun v=>
bif (v !=(0)) then (
some (.inr ([],v))) else (
some (.inl (IntKind.wrap .i64 (b+(1)))))) else (
none))))) else (
(P4 n c d).bind fun a=>
bif (a.2 !=(0)) then (
some (.inr ([],a.2))) else (
((Bt (fun y:Int×List Ab×List Ab×ByteArray×Int×Int×ByteArray×Int×Int×Int×Int×Int×Int×ByteArray×Int×Int×Int×Int×Int×Int×Int×Int×List Ab=>Vm n d w a.2 c (c.length:Int) a.1.Ac a.1.Ak a.1.Aj a.1.Ad a.1.Ay a.1.Br y.1 y.2.1 y.2.2.1 y.2.2.2.1 y.2.2.2.2.1 y.2.2.2.2.2.1 y.2.2.2.2.2.2.1 y.2.2.2.2.2.2.2.1 y.2.2.2.2.2.2.2.2.1 y.2.2.2.2.2.2.2.2.2.1 y.2.2.2.2.2.2.2.2.2.2.1 y.2.2.2.2.2.2.2.2.2.2.2.1 y.2.2.2.2.2.2.2.2.2.2.2.2.1 y.2.2.2.2.2.2.2.2.2.2.2.2.2.1 y.2.2.2.2.2.2.2.2.2.2.2.2.2.2.1 y.2.2.2.2.2.2.2.2.2.2.2.2.2.2.2.1 y.2.2.2.2.2.2.2.2.2.2.2.2.2.2.2.2.1 y.2.2.2.2.2.2.2.2.2.2.2.2.2.2.2.2.2.1 y.2.2.2.2.2.2.2.2.2.2.2.2.2.2.2.2.2.2.1 y.2.2.2.2.2.2.2.2.2.2.2.2.2.2.2.2.2.2.2.1 y.2.2.2.2.2.2.2.2.2.2.2.2.2.2.2.2.2.2.2.2.1 y.2.2.2.2.2.2.2.2.2.2.2.2.2.2.2.2.2.2.2.2.2.1 y.2.2.2.2.2.2.2.2.2.2.2.2.2.2.2.2.2.2.2.2.2.2) n ((0),[],[],e,f,g,h,a.1.Ac,a.1.Ak,a.1.Aj,a.1.Ad,a.1.Ay,a.1.Br,i,j,k,l,m,o,p,q,r,c)).map Sum.inr)))
def g8 (n:Nat) (d:List Ab) (b:Ae) (e:Int) (a:Dm) (c:TP):Option eH:=
Bt (fun y:Int=>Lq n e (0) (4) d b.Call b.Kind b.Value b.Fix a.Name a.D9 a.B6 a.C1 a.Ca a.Dy a.Dz c.X c.Y y) n (0)
abbrev wG:=(Ae×(List Ab)×Int)
def Qc (n:Nat) (c:List (List Ab)) (d l e:Int) (Qb:List Ae) (Nw m o:Int) (p:ByteArray) (q r s t u v:Int) (f:ByteArray) (a:Int) (g:ByteArray) (h i:Int) (j:ByteArray):Option ((Int×ByteArray×Int×Int×ByteArray)⊕wG):=
bif (decide (a<Nw)) then (
(Dq Qb a).bind fun k=>
(Dq c d).bind fun w=>
(g8 n w k l (⟨p,q,r,s,t,u,v⟩:Dm) (⟨0,0⟩:TP)).bind fun b=>
bif (b.2==(0)) then (
(yI n c d b.1 (⟨m,o⟩:Ea)).bind fun x=>
bif x then (
some (.inr (k,b.1,(0)))) else (
some (.inl ((IntKind.wrap .i64 (a+(1))),g,h,i,j)))) else (
some (.inl ((IntKind.wrap .i64 (a+(1))),g,h,i,j)))) else (
some (.inr ((⟨f,e,e,f⟩:Ae),[],(8))))
def g6 (n:Nat) (b:List (List Ab)) (c:Int) (d:Ea) (h:ByteArray) (f:Int) (a:Dm):Option wG:=
(g18 n b c d).bind fun g=>
bif (g !=(0)) then (
some ((⟨(⟨#[]⟩:ByteArray),0,0,(⟨#[]⟩:ByteArray)⟩:Ae),[],g)) else (
(Dq b c).bind fun i=>
(g7 n h i f a).bind fun e=>
bif (e.2 !=(0)) then (
some ((⟨(⟨#[]⟩:ByteArray),0,0,(⟨#[]⟩:ByteArray)⟩:Ae),[],e.2)) else (
(Dq b c).bind fun j=>
(yI n b c j d).bind fun k=>
bif k then (
some ((⟨(⟨#[]⟩:ByteArray),0,0,(⟨#[]⟩:ByteArray)⟩:Ae),[],(11))) else (
Bt (fun y:Int×ByteArray×Int×Int×ByteArray=>Qc n b c f (0) e.1 (e.1.length:Int) d.Bu d.Bj a.Name a.D9 a.B6 a.C1 a.Ca a.Dy a.Dz (⟨#[]⟩:ByteArray) y.1 y.2.1 y.2.2.1 y.2.2.2.1 y.2.2.2.2) n ((0),(⟨#[]⟩:ByteArray),0,0,(⟨#[]⟩:ByteArray)))))
abbrev wF:=(Bool)
def Sw (n:Nat) (b c:List Ab) (g:Bool) (d a:Int):Option ((Int)⊕wF):=
bif (decide (a<d)) then (
(Dq b a).bind fun e=>
(Dq c a).bind fun f=>
bif (!(decide (e=f))) then (
some (.inr (false))) else (
some (.inl (IntKind.wrap .i64 (a+(1)))))) else (
some (.inr (true)))
def g9 (n:Nat) (a b:List Ab):Option wF:=
bif ((a.length:Int) !=(b.length:Int)) then (
some (false)) else (
Bt (fun y:Int=>Sw n a b false (a.length:Int) y) n (0))
abbrev Wy:=(Bool)
def Lt (n:Nat) (b:Int) (c:List Ab) (c8:Bool) (d:List (List Ab)) (e f g a:Int):Option ((Int)⊕Wy):=
bif (decide (a<e)) then (
(Dq d a).bind fun h=>
bif (a==b) then (
some (.inl (IntKind.wrap .i64 (a+(1))))) else (
(lZ n c h (⟨f,g⟩:Ea)).bind fun i=>
bif (i.2 !=(8)) then (
some (.inr (false))) else (
some (.inl (IntKind.wrap .i64 (a+(1))))))) else (
some (.inr (true)))
def g10 (n:Nat) (a:List (List Ab)) (c:Int) (d:List Ab) (b:Ea):Option Wy:=
Bt (fun y:Int=>Lt n c d false a (a.length:Int) b.Bu b.Bj y) n (0)
abbrev wU:=(Bool)
def gS (n:Nat) (c:List (List Ab)) (d i:Int) (K5:Bool) (e:List Ab) (Qb:List Ae) (Nw f g:Int) (j:ByteArray) (k l m o p q:Int) (r:ByteArray) (s t:Int) (u:ByteArray) (a:Int):Option ((Int)⊕wU):=
bif (decide (a<Nw)) then (
(Dq Qb a).bind fun h=>
(Dq c d).bind fun v=>
(g8 n v h i (⟨j,k,l,m,o,p,q⟩:Dm) (⟨0,0⟩:TP)).bind fun b=>
bif (decide (h=(⟨r,s,t,u⟩:Ae))) then (
bif (b.2==(0)) then (
(g9 n b.1 e).bind fun w=>
bif w then (
(g10 n c d e (⟨f,g⟩:Ea)).bind fun x=>
some (.inr (x))) else (
some (.inr (false)))) else (
some (.inr (false)))) else (
bif (b.2==(0)) then (
(g10 n c d b.1 (⟨f,g⟩:Ea)).bind fun y=>
bif y then (
some (.inr (false))) else (
some (.inl (IntKind.wrap .i64 (a+(1)))))) else (
some (.inl (IntKind.wrap .i64 (a+(1))))))) else (
some (.inr (false)))
def g3 (n:Nat) (c:List (List Ab)) (d:Int) (e:Ea) (f:Int) (a:Dm):Option wU:=
(g4 n).bind fun h=>
bif (!h) then (
some (false)) else (
(g5 n c (4) (200)).bind fun i=>
bif (!i) then (
some (true)) else (
(g6 n c d e (⟨#[65,49]⟩:ByteArray) f a).bind fun b=>
bif (b.2.2 !=(0)) then (
bif ((b.2.1.length:Int)==(0)) then (
some (decide (b.1=(⟨(⟨#[]⟩:ByteArray),0,0,(⟨#[]⟩:ByteArray)⟩:Ae)))) else (
some (false))) else (
(Dq c d).bind fun j=>
(g7 n (⟨#[65,49]⟩:ByteArray) j f a).bind fun g=>
bif (g.2 !=(0)) then (
some (false)) else (
Bt (fun y:Int=>gS n c d f false b.2.1 g.1 (g.1.length:Int) e.Bu e.Bj a.Name a.D9 a.B6 a.C1 a.Ca a.Dy a.Dz b.1.Call b.1.Kind b.1.Value b.1.Fix y) n (0)))))
end Go.Proofs.YtmhnnmfcjdnlhaaGreatDoor
