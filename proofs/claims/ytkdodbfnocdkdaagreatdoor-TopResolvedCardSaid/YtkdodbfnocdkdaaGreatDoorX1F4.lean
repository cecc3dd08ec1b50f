/- A part. -/
import Derived.Test.YtkdodbfnocdkdaaGreatDoorX1T
set_option linter.unusedVariables false
set_option maxRecDepth 100000
set_option maxHeartbeats 4000000
namespace Go.Proofs.YtkdodbfnocdkdaaGreatDoor
noncomputable def Kj:Code:=((Tryz.f11).body).getD .skip
noncomputable def q11 (R:AV→Mem→Prop):A1→St→Prop:=Cm pg Tryz.f11 R
noncomputable def Amy:Code:=Dy Kj 0
noncomputable def Ago (R:AV→Mem→Prop):A1→St→Prop:=Dz pg KK 108 0 Kj 0 (q11 R)
noncomputable def Aq0 (R:AV→Mem→Prop) (N0:St→Prop):A1→St→Prop:=Dw N0 (Ago R)
def Apk (a:Int) (b:AV) (c:Int) (d:AV) (e f:Int) (m:Mem):St:=⟨[(2,(Aa a)),(5,(AV.ptr 0 0)),(6,(AV.ptr 1 0)),(8,(AV.ptr 2 0)),(9,(AV.ptr 3 0)),(10,b),(11,(Aa c)),(27,d),(28,(Aa e)),(29,(Aa f))],m,100000⟩
noncomputable def Am4:Code:=Dy Kj 1
noncomputable def Afi (R:AV→Mem→Prop):A1→St→Prop:=Dz pg KK 108 0 Kj 1 (q11 R)
noncomputable def As1 (R:AV→Mem→Prop) (N0:St→Prop):A1→St→Prop:=Dw N0 (Afi R)
def Apg (a:Int) (b:AV) (c d:Int) (e:AV) (f g:Int) (m:Mem):St:=⟨[(2,(Aa a)),(5,(AV.ptr 0 0)),(10,b),(11,(Aa c)),(15,(AV.ptr 100070 0)),(16,(Aa d)),(17,(AV.ptr 100081 0)),(54,e),(55,(Aa f)),(56,(Aa g))],m,200000⟩
noncomputable def Afs (l:Int) (o:AV) (p:Int) (n:AV) (j h:Int) (m:Mem) (R:AV→Mem→Prop) (N0:St→Prop):Prop:=
bif (decide (h<j)) then (
A4 (De 1 n (Aa h)) fun q=>
A4 (Ek (Al m) q) fun k=>
H7 (some k) (some []) fun f5 s=>bif KK.pm f5 then A2 pg KK.gl m f5 s (fun r=>
Ag r fun a=>
bif (a !=(0)) then (
As R m [some AV.Bg,some (Aa a)]) else (
N0 ⟨[(2,(Aa l)),(5,(AV.ptr 0 0)),(6,(AV.ptr 1 0)),(8,(AV.ptr 2 0)),(9,(AV.ptr 3 0)),(10,o),(11,(Aa p)),(27,n),(28,(Aa j)),(29,(Aa (IntKind.wrap .i64 (h+(1))))),(30,(Ai (decide (h<j)))),(31,q),(32,k),(13,k),(33,k),(34,(Aa a)),(14,(Aa a)),(35,(Aa a)),(36,(Ai (a !=(0)))),(38,(Aa (IntKind.wrap .i64 (h+(1)))))],m,100074⟩)) else C1 pg KK.gl m 100005 f5 s fun r t=>
Ag r fun a=>
bif (a !=(0)) then (
As R t [some AV.Bg,some (Aa a)]) else (
N0 ⟨[(2,(Aa l)),(5,(AV.ptr 0 0)),(6,(AV.ptr 1 0)),(8,(AV.ptr 2 0)),(9,(AV.ptr 3 0)),(10,o),(11,(Aa p)),(27,n),(28,(Aa j)),(29,(Aa (IntKind.wrap .i64 (h+(1))))),(30,(Ai (decide (h<j)))),(31,q),(32,k),(13,k),(33,k),(34,(Aa a)),(14,(Aa a)),(35,(Aa a)),(36,(Ai (a !=(0)))),(38,(Aa (IntKind.wrap .i64 (h+(1)))))],t,100074⟩)) else (
A4 (Ek (Al m) (AV.ptr 0 0)) fun u=>
A2 pg KK.gl m 60 [u,Aa l] fun v8=>
E7 v8 fun c9 O2=>
Kx c9 fun Kj c12 Wm aj ak Is=>
Ag Kj fun b=>
Ag c12 fun c=>
Ag Wm fun d=>
Ag aj fun e=>
Ag ak fun f=>
Ag Is fun g=>
Ag O2 fun i=>
bif (i !=(0)) then (
As R ((100070,some ⟨[Aa b,Aa c,Aa d,Aa e,Aa f,Aa g],135⟩)::(100070,some ⟨[Aa (0),Aa (0),Aa (0),Aa (0),Aa (0),Aa (0)],135⟩)::m) [some AV.Bg,some (Aa i)]) else (
A4 (Hj (Al ((100070,some ⟨[Aa b,Aa c,Aa d,Aa e,Aa f,Aa g],135⟩)::(100070,some ⟨[Aa (0),Aa (0),Aa (0),Aa (0),Aa (0),Aa (0)],135⟩)::m)) 4 (AV.ptr 1 0)) fun al=>
Hz al fun am an ao c28=>
Cd am fun s29=>
Ag an fun v=>
Ag ao fun w=>
Cd c28 fun s32=>
A4 (Hj (Al ((100070,some ⟨[Aa b,Aa c,Aa d,Aa e,Aa f,Aa g],135⟩)::(100070,some ⟨[Aa (0),Aa (0),Aa (0),Aa (0),Aa (0),Aa (0)],135⟩)::m)) 7 (AV.ptr 2 0)) fun ap=>
vV ap fun aq ar au av aw ax c40=>
Cd aq fun s41=>
Ag ar fun x=>
Ag au fun y=>
Ag av fun z=>
Ag aw fun aa=>
Ag ax fun ab=>
Ag c40 fun ad=>
A4 (Hj (Al ((100070,some ⟨[Aa b,Aa c,Aa d,Aa e,Aa f,Aa g],135⟩)::(100070,some ⟨[Aa (0),Aa (0),Aa (0),Aa (0),Aa (0),Aa (0)],135⟩)::m)) 2 (AV.ptr 3 0)) fun ay=>
I3 ay fun c49 lQ=>
Ag c49 fun ae=>
Ag lQ fun af=>
A4 (Ek (Al ((100070,some ⟨[Aa b,Aa c,Aa d,Aa e,Aa f,Aa g],135⟩)::(100070,some ⟨[Aa (0),Aa (0),Aa (0),Aa (0),Aa (0),Aa (0)],135⟩)::m)) (AV.ptr 0 0)) fun ag=>
A4 (Mb [AV.sc (.string ⟨#[]⟩),Aa (0),Aa (0),AV.sc (.string ⟨#[]⟩),AV.Bg,AV.Bg,Aa (0),Aa (0),Aa (0),Aa (0),Aa (0),Aa (0),AV.sc (.string ⟨#[]⟩),Aa (0),Aa (0),Aa (0),Aa (0),Aa (0),Aa (0),Aa (0),Aa (0),AV.Bg] [(0,4),(4,1),(5,1),(6,6),(12,7),(19,2),(21,1)] [(0,(AV.agg [AV.sc (.string s29),Aa v,Aa w,AV.sc (.string s32)])),(3,(AV.agg [Aa b,Aa c,Aa d,Aa e,Aa f,Aa g])),(4,(AV.agg [AV.sc (.string s41),Aa x,Aa y,Aa z,Aa aa,Aa ab,Aa ad])),(5,(AV.agg [Aa ae,Aa af])),(6,ag)]) fun ah=>
B4 pg (Al ((100081,some ⟨[AV.sc (.string ⟨#[]⟩),Aa (0),Aa (0),AV.sc (.string ⟨#[]⟩),AV.Bg,AV.Bg,Aa (0),Aa (0),Aa (0),Aa (0),Aa (0),Aa (0),AV.sc (.string ⟨#[]⟩),Aa (0),Aa (0),Aa (0),Aa (0),Aa (0),Aa (0),Aa (0),Aa (0),AV.Bg],169⟩)::(100070,some ⟨[Aa b,Aa c,Aa d,Aa e,Aa f,Aa g],135⟩)::(100070,some ⟨[Aa (0),Aa (0),Aa (0),Aa (0),Aa (0),Aa (0)],135⟩)::m)) 169 (AV.ptr 100081 0) ah fun bb d55=>
A4 (Ek (Al (Ad ((100081,some ⟨[AV.sc (.string ⟨#[]⟩),Aa (0),Aa (0),AV.sc (.string ⟨#[]⟩),AV.Bg,AV.Bg,Aa (0),Aa (0),Aa (0),Aa (0),Aa (0),Aa (0),AV.sc (.string ⟨#[]⟩),Aa (0),Aa (0),Aa (0),Aa (0),Aa (0),Aa (0),Aa (0),Aa (0),AV.Bg],169⟩)::(100070,some ⟨[Aa b,Aa c,Aa d,Aa e,Aa f,Aa g],135⟩)::(100070,some ⟨[Aa (0),Aa (0),Aa (0),Aa (0),Aa (0),Aa (0)],135⟩)::m) d55)) (AV.ptr 0 0)) fun ai=>
A4 (Da ai) fun az=>
Ag az fun ba=>
Ff pg KK 108 0 (.loop Am4) ⟨[(2,(Aa l)),(5,(AV.ptr 0 0)),(6,(AV.ptr 1 0)),(8,(AV.ptr 2 0)),(9,(AV.ptr 3 0)),(10,o),(11,(Aa p)),(27,n),(28,(Aa j)),(29,(Aa h)),(30,(Ai (decide (h<j)))),(40,u),(41,(Aa l)),(42,(AV.Bn [AV.agg [Aa b,Aa c,Aa d,Aa e,Aa f,Aa g],Aa i])),(39,(AV.Bn [AV.agg [Aa b,Aa c,Aa d,Aa e,Aa f,Aa g],Aa i])),(43,(AV.agg [Aa b,Aa c,Aa d,Aa e,Aa f,Aa g])),(44,(Aa i)),(15,(AV.ptr 100070 0)),(16,(Aa i)),(45,(Aa i)),(46,(Ai (i !=(0)))),(48,(AV.agg [AV.sc (.string s29),Aa v,Aa w,AV.sc (.string s32)])),(49,(AV.agg [Aa b,Aa c,Aa d,Aa e,Aa f,Aa g])),(50,(AV.agg [AV.sc (.string s41),Aa x,Aa y,Aa z,Aa aa,Aa ab,Aa ad])),(51,(AV.agg [Aa ae,Aa af])),(52,ag),(53,ah),(17,(AV.ptr 100081 0)),(54,ai),(55,(Aa ba)),(56,(Aa (0)))],Ad ((100081,some ⟨[AV.sc (.string ⟨#[]⟩),Aa (0),Aa (0),AV.sc (.string ⟨#[]⟩),AV.Bg,AV.Bg,Aa (0),Aa (0),Aa (0),Aa (0),Aa (0),Aa (0),AV.sc (.string ⟨#[]⟩),Aa (0),Aa (0),Aa (0),Aa (0),Aa (0),Aa (0),Aa (0),Aa (0),AV.Bg],169⟩)::(100070,some ⟨[Aa b,Aa c,Aa d,Aa e,Aa f,Aa g],135⟩)::(100070,some ⟨[Aa (0),Aa (0),Aa (0),Aa (0),Aa (0),Aa (0)],135⟩)::m) d55,100086⟩ (Afi R)))
noncomputable def Afq (b:Int) (p:AV) (q r:Int) (l:AV) (i c:Int) (m:Mem) (R:AV→Mem→Prop) (N0:St→Prop):Prop:=
bif (decide (c<i)) then (
A4 (De 6 l (Aa c)) fun n=>
A4 (Hj (Al m) 6 n) fun aq=>
Kx aq fun c61 c62 zK c64 c65 c66=>
Ag c61 fun a=>
Ag c62 fun d=>
Ag zK fun e=>
Ag c64 fun f=>
Ag c65 fun g=>
Ag c66 fun h=>
bif (decide (a<b)) then (
A4 (Ek (Al ((200003,some ⟨[Aa a,Aa d,Aa e,Aa f,Aa g,Aa h],135⟩)::(200003,some ⟨[Aa (0),Aa (0),Aa (0),Aa (0),Aa (0),Aa (0)],135⟩)::m)) (AV.ptr 100081 4)) fun s=>
Hi (Th 200013 135 6 1 [Aa (0),Aa (0),Aa (0),Aa (0),Aa (0),Aa (0)] [(0,(AV.agg [Aa a,Aa d,Aa e,Aa f,Aa g,Aa h]))]) ((200003,some ⟨[Aa a,Aa d,Aa e,Aa f,Aa g,Aa h],135⟩)::(200003,some ⟨[Aa (0),Aa (0),Aa (0),Aa (0),Aa (0),Aa (0)],135⟩)::m) fun t v=>
Hi (app (Al v) 135 6 48 [Aa (0),Aa (0),Aa (0),Aa (0),Aa (0),Aa (0)] 200014 s t) v fun u j=>
B4 pg (Al j) 32 (AV.ptr 100081 4) u fun dq d76=>
A4 (Ek (Al (Ad j d76)) (AV.ptr 200003 0)) fun ar=>
Ag ar fun o=>
bif (decide (o>b)) then (
A4 (Ek (Al (Ad j d76)) (AV.ptr 100081 5)) fun w=>
A4 (Hj (Al (Ad j d76)) 6 (AV.ptr 200003 0)) fun au=>
Kx au fun av aw ax ay c85 az=>
Ag av fun x=>
Ag aw fun y=>
Ag ax fun z=>
Ag ay fun aa=>
Ag c85 fun ab=>
Ag az fun ad=>
Hi (Th 200025 135 6 1 [Aa (0),Aa (0),Aa (0),Aa (0),Aa (0),Aa (0)] [(0,(AV.agg [Aa x,Aa y,Aa z,Aa aa,Aa ab,Aa ad]))]) (Ad j d76) fun ae af=>
Hi (app (Al af) 135 6 48 [Aa (0),Aa (0),Aa (0),Aa (0),Aa (0),Aa (0)] 200026 w ae) af fun ag ah=>
B4 pg (Al ah) 32 (AV.ptr 100081 5) ag fun ds d95=>
N0 ⟨[(2,(Aa b)),(5,(AV.ptr 0 0)),(10,p),(11,(Aa q)),(15,(AV.ptr 100070 0)),(16,(Aa r)),(17,(AV.ptr 100081 0)),(54,l),(55,(Aa i)),(56,(Aa (IntKind.wrap .i64 (c+(1))))),(57,(Ai (decide (c<i)))),(58,n),(59,(AV.agg [Aa a,Aa d,Aa e,Aa f,Aa g,Aa h])),(19,(AV.ptr 200003 0)),(60,(AV.ptr 200003 0)),(61,(AV.ptr 200003 0)),(62,(Aa a)),(63,(Aa b)),(64,(Ai (decide (a<b)))),(65,(AV.ptr 100081 4)),(66,s),(67,(AV.agg [Aa a,Aa d,Aa e,Aa f,Aa g,Aa h])),(68,t),(69,u),(70,(AV.ptr 100081 4)),(71,(AV.ptr 200003 0)),(72,(AV.ptr 200003 0)),(73,(Aa o)),(74,(Aa b)),(75,(Ai (decide (o>b)))),(76,(AV.ptr 100081 5)),(77,w),(78,(AV.agg [Aa x,Aa y,Aa z,Aa aa,Aa ab,Aa ad])),(79,ae),(80,ag),(81,(AV.ptr 100081 5)),(82,(Aa (IntKind.wrap .i64 (c+(1)))))],Ad ah d95,200031⟩) else (
N0 ⟨[(2,(Aa b)),(5,(AV.ptr 0 0)),(10,p),(11,(Aa q)),(15,(AV.ptr 100070 0)),(16,(Aa r)),(17,(AV.ptr 100081 0)),(54,l),(55,(Aa i)),(56,(Aa (IntKind.wrap .i64 (c+(1))))),(57,(Ai (decide (c<i)))),(58,n),(59,(AV.agg [Aa a,Aa d,Aa e,Aa f,Aa g,Aa h])),(19,(AV.ptr 200003 0)),(60,(AV.ptr 200003 0)),(61,(AV.ptr 200003 0)),(62,(Aa a)),(63,(Aa b)),(64,(Ai (decide (a<b)))),(65,(AV.ptr 100081 4)),(66,s),(67,(AV.agg [Aa a,Aa d,Aa e,Aa f,Aa g,Aa h])),(68,t),(69,u),(70,(AV.ptr 100081 4)),(71,(AV.ptr 200003 0)),(72,(AV.ptr 200003 0)),(73,(Aa o)),(74,(Aa b)),(75,(Ai (decide (o>b)))),(82,(Aa (IntKind.wrap .i64 (c+(1)))))],Ad j d76,200024⟩)) else (
bif (decide (a>b)) then (
A4 (Ek (Al ((200003,some ⟨[Aa a,Aa d,Aa e,Aa f,Aa g,Aa h],135⟩)::(200003,some ⟨[Aa (0),Aa (0),Aa (0),Aa (0),Aa (0),Aa (0)],135⟩)::m)) (AV.ptr 100081 5)) fun ai=>
Hi (Th 200018 135 6 1 [Aa (0),Aa (0),Aa (0),Aa (0),Aa (0),Aa (0)] [(0,(AV.agg [Aa a,Aa d,Aa e,Aa f,Aa g,Aa h]))]) ((200003,some ⟨[Aa a,Aa d,Aa e,Aa f,Aa g,Aa h],135⟩)::(200003,some ⟨[Aa (0),Aa (0),Aa (0),Aa (0),Aa (0),Aa (0)],135⟩)::m) fun aj ak=>
Hi (app (Al ak) 135 6 48 [Aa (0),Aa (0),Aa (0),Aa (0),Aa (0),Aa (0)] 200019 ai aj) ak fun al am=>
B4 pg (Al am) 32 (AV.ptr 100081 5) al fun dt d99=>
N0 ⟨[(2,(Aa b)),(5,(AV.ptr 0 0)),(10,p),(11,(Aa q)),(15,(AV.ptr 100070 0)),(16,(Aa r)),(17,(AV.ptr 100081 0)),(54,l),(55,(Aa i)),(56,(Aa (IntKind.wrap .i64 (c+(1))))),(57,(Ai (decide (c<i)))),(58,n),(59,(AV.agg [Aa a,Aa d,Aa e,Aa f,Aa g,Aa h])),(19,(AV.ptr 200003 0)),(60,(AV.ptr 200003 0)),(61,(AV.ptr 200003 0)),(62,(Aa a)),(63,(Aa b)),(64,(Ai (decide (a<b)))),(71,(AV.ptr 200003 0)),(72,(AV.ptr 200003 0)),(73,(Aa a)),(74,(Aa b)),(75,(Ai (decide (a>b)))),(76,(AV.ptr 100081 5)),(77,ai),(78,(AV.agg [Aa a,Aa d,Aa e,Aa f,Aa g,Aa h])),(79,aj),(80,al),(81,(AV.ptr 100081 5)),(82,(Aa (IntKind.wrap .i64 (c+(1)))))],Ad am d99,200024⟩) else (
N0 ⟨[(2,(Aa b)),(5,(AV.ptr 0 0)),(10,p),(11,(Aa q)),(15,(AV.ptr 100070 0)),(16,(Aa r)),(17,(AV.ptr 100081 0)),(54,l),(55,(Aa i)),(56,(Aa (IntKind.wrap .i64 (c+(1))))),(57,(Ai (decide (c<i)))),(58,n),(59,(AV.agg [Aa a,Aa d,Aa e,Aa f,Aa g,Aa h])),(19,(AV.ptr 200003 0)),(60,(AV.ptr 200003 0)),(61,(AV.ptr 200003 0)),(62,(Aa a)),(63,(Aa b)),(64,(Ai (decide (a<b)))),(71,(AV.ptr 200003 0)),(72,(AV.ptr 200003 0)),(73,(Aa a)),(74,(Aa b)),(75,(Ai (decide (a>b)))),(82,(Aa (IntKind.wrap .i64 (c+(1)))))],((200003,some ⟨[Aa a,Aa d,Aa e,Aa f,Aa g,Aa h],135⟩)::(200003,some ⟨[Aa (0),Aa (0),Aa (0),Aa (0),Aa (0),Aa (0)],135⟩)::m),200017⟩))) else (
A4 (Hj (Al m) 22 (AV.ptr 100081 0)) fun ba=>
wA ba fun bb bc bd be bf bg bh bi bj bk bl bm bn bo Ab4 bp c117 Aec bq Anb Apt br=>
Cd bb fun s123=>
Ag bc fun bs=>
Ag bd fun bt=>
Cd be fun s126=>
Ag bh fun bu=>
Ag bi fun bv=>
Ag bj fun bw=>
Ag bk fun bz=>
Ag bl fun ca=>
Ag bm fun cc=>
Cd bn fun s133=>
Ag bo fun cd=>
Ag Ab4 fun ce=>
Ag bp fun cg=>
Ag c117 fun ch=>
Ag Aec fun ci=>
Ag bq fun cj=>
Ag Anb fun ck=>
Ag Apt fun cl=>
C1 pg KK.gl m 200002 61 [AV.agg [AV.sc (.string s123),Aa bs,Aa bt,AV.sc (.string s126),bf,bg,Aa bu,Aa bv,Aa bw,Aa bz,Aa ca,Aa cc,AV.sc (.string s133),Aa cd,Aa ce,Aa cg,Aa ch,Aa ci,Aa cj,Aa ck,Aa cl,br]] fun cm k=>
rG cm fun cn co cp=>
Ha co fun cq=>
Ag cp fun an=>
bif (an !=(0)) then (
As R k [some AV.Bg,some (Aa an)]) else (
bif cq then (
A4 (Ek (Al k) (AV.ptr 0 0)) fun cs=>
C1 pg KK.gl k 200079 62 [cs] fun ct cu=>
As R cu [some ct,some (Aa (0))]) else (
A4 (Ek (Al k) (AV.ptr 100081 4)) fun cv=>
A4 (Hj (Al k) 6 (AV.ptr 100070 0)) fun cw=>
Kx cw fun cx cy cz da db dc=>
Ag cx fun dd=>
Ag cy fun de=>
Ag cz fun df=>
Ag da fun dg=>
Ag db fun dh=>
Ag dc fun di=>
Hi (Th 200081 135 6 1 [Aa (0),Aa (0),Aa (0),Aa (0),Aa (0),Aa (0)] [(0,(AV.agg [Aa dd,Aa de,Aa df,Aa dg,Aa dh,Aa di]))]) k fun dj dk=>
Hi (Th 200083 32 1 3 [AV.Bg] [(0,cv),(1,dj),(2,cn)]) dk fun dl dm=>
C1 pg KK.gl dm 200084 63 [dl] fun ao ap=>
A4 (Da ao) fun dn=>
Ag dn fun dp=>
bif (decide (dp>(64))) then (
As R ap [some AV.Bg,some (Aa (2))]) else (
As R ap [some ao,some (Aa (0))]))))
noncomputable def F11 (a:AV) (b:ByteArray) (c d:Int) (e:ByteArray) (p:Int) (f:ByteArray) (g h i j k l m n:Int) (R:AV→Mem→Prop):Prop:=
Ic (Cl a)<|Hi (Ce pg (.buildSlice 165 4 #[(0,.tmp 0),(1,.tmp 1),(2,.tmp 2),(3,.tmp 3)]) 165 [AV.fn 54 [AV.ptr 0 0],AV.fn 55 [AV.ptr 1 0],AV.fn 56 [AV.ptr 2 0],AV.fn 58 [AV.ptr 3 0]] (Al ((3,some ⟨[Aa m,Aa n],46⟩)::(2,some ⟨[AV.sc (.string f),Aa g,Aa h,Aa i,Aa j,Aa k,Aa l],26⟩)::(1,some ⟨[AV.sc (.string b),Aa c,Aa d,AV.sc (.string e)],30⟩)::(0,some ⟨[a],32⟩)::[])) 10) ((3,some ⟨[Aa m,Aa n],46⟩)::(2,some ⟨[AV.sc (.string f),Aa g,Aa h,Aa i,Aa j,Aa k,Aa l],26⟩)::(1,some ⟨[AV.sc (.string b),Aa c,Aa d,AV.sc (.string e)],30⟩)::(0,some ⟨[a],32⟩)::[]) fun o q=>
A4 (Da o) fun r=>
Ag r fun s=>
Ff pg KK 108 0 (.loop Amy) ⟨[(0,a),(1,(AV.agg [AV.sc (.string b),Aa c,Aa d,AV.sc (.string e)])),(2,(Aa p)),(3,(AV.agg [AV.sc (.string f),Aa g,Aa h,Aa i,Aa j,Aa k,Aa l])),(4,(AV.agg [Aa m,Aa n])),(5,(AV.ptr 0 0)),(6,(AV.ptr 1 0)),(8,(AV.ptr 2 0)),(9,(AV.ptr 3 0)),(10,AV.Bg),(11,(Aa (0))),(23,(AV.fn 54 [AV.ptr 0 0])),(24,(AV.fn 55 [AV.ptr 1 0])),(25,(AV.fn 56 [AV.ptr 2 0])),(26,(AV.fn 58 [AV.ptr 3 0])),(27,o),(28,(Aa s)),(29,(Aa (0)))],q,13⟩ (Ago R)
noncomputable def c6:Code:=((Tryz.f6).body).getD .skip
noncomputable def q6 (R:AV→Mem→Prop):A1→St→Prop:=Cm pg Tryz.f6 R
noncomputable def Ash:Code:=Dy c6 0
noncomputable def Aos (R:AV→Mem→Prop):A1→St→Prop:=Dz pg KK 87 0 c6 0 (q6 R)
noncomputable def Atp (R:AV→Mem→Prop) (N0:St→Prop):A1→St→Prop:=Dw N0 (Aos R)
def Ar9 (a:AV) (b c:Int) (d:AV) (e:Int) (f:AV) (g h:Int) (m:Mem):St:=⟨[(0,a),(1,(Aa b)),(4,(Aa c)),(8,(AV.ptr 0 0)),(11,(AV.ptr 1 0)),(12,(AV.ptr 2 0)),(13,d),(14,(Aa e)),(15,(AV.ptr 6 0)),(56,f),(57,(Aa g)),(58,(Aa h))],m,100000⟩
noncomputable def An9 (f:AV) (g h:Int) (w:AV) (x:Int) (j:AV) (i e:Int) (m:Mem) (R:AV→Mem→Prop) (N0:St→Prop):Prop:=
bif (decide (e<i)) then (
A4 (De 4 j (Aa e)) fun k=>
A4 (Hj (Al m) 4 k) fun aa=>
Hz aa fun ab ad ae af=>
Cd ab fun s77=>
Ag ad fun a=>
Ag ae fun b=>
Cd af fun s80=>
A4 (De 1 f (Aa g)) fun l=>
A4 (Ek (Al ((100003,some ⟨[AV.sc (.string s77),Aa a,Aa b,AV.sc (.string s80)],30⟩)::(100003,some ⟨[AV.sc (.string ⟨#[]⟩),Aa (0),Aa (0),AV.sc (.string ⟨#[]⟩)],30⟩)::m)) l) fun n=>
A4 (Hj (Al ((100003,some ⟨[AV.sc (.string s77),Aa a,Aa b,AV.sc (.string s80)],30⟩)::(100003,some ⟨[AV.sc (.string ⟨#[]⟩),Aa (0),Aa (0),AV.sc (.string ⟨#[]⟩)],30⟩)::m)) 7 (AV.ptr 1 0)) fun ag=>
vV ag fun ah c85 ai aj ak al am=>
Cd ah fun s91=>
Ag c85 fun o=>
Ag ai fun p=>
Ag aj fun q=>
Ag ak fun r=>
Ag al fun s=>
Ag am fun t=>
A4 (Mb [Aa (0),Aa (0)] [(0,1),(1,1)] []) fun u=>
A2 pg KK.gl ((100003,some ⟨[AV.sc (.string s77),Aa a,Aa b,AV.sc (.string s80)],30⟩)::(100003,some ⟨[AV.sc (.string ⟨#[]⟩),Aa (0),Aa (0),AV.sc (.string ⟨#[]⟩)],30⟩)::m) 11 [n,AV.agg [AV.sc (.string s77),Aa a,Aa b,AV.sc (.string s80)],Aa h,AV.agg [AV.sc (.string s91),Aa o,Aa p,Aa q,Aa r,Aa s,Aa t],u] fun an=>
E7 an fun d ao=>
Ag ao fun c=>
bif (c==(0)) then (
A4 (Hj (Al ((100003,some ⟨[AV.sc (.string s77),Aa a,Aa b,AV.sc (.string s80)],30⟩)::(100003,some ⟨[AV.sc (.string ⟨#[]⟩),Aa (0),Aa (0),AV.sc (.string ⟨#[]⟩)],30⟩)::m)) 2 (AV.ptr 0 0)) fun ap=>
I3 ap fun aq ar=>
Ag aq fun y=>
Ag ar fun z=>
A2 pg KK.gl ((100003,some ⟨[AV.sc (.string s77),Aa a,Aa b,AV.sc (.string s80)],30⟩)::(100003,some ⟨[AV.sc (.string ⟨#[]⟩),Aa (0),Aa (0),AV.sc (.string ⟨#[]⟩)],30⟩)::m) 45 [f,Aa g,d,AV.agg [Aa y,Aa z]] fun au=>
Ha au fun v=>
bif v then (
B4 pg (Al ((100003,some ⟨[AV.sc (.string s77),Aa a,Aa b,AV.sc (.string s80)],30⟩)::(100003,some ⟨[AV.sc (.string ⟨#[]⟩),Aa (0),Aa (0),AV.sc (.string ⟨#[]⟩)],30⟩)::m)) 30 (AV.ptr 2 0) (AV.agg [AV.sc (.string s77),Aa a,Aa b,AV.sc (.string s80)]) fun bb d110=>
As R (Ad ((100003,some ⟨[AV.sc (.string s77),Aa a,Aa b,AV.sc (.string s80)],30⟩)::(100003,some ⟨[AV.sc (.string ⟨#[]⟩),Aa (0),Aa (0),AV.sc (.string ⟨#[]⟩)],30⟩)::m) d110) [(D7 pg (Al (Ad ((100003,some ⟨[AV.sc (.string s77),Aa a,Aa b,AV.sc (.string s80)],30⟩)::(100003,some ⟨[AV.sc (.string ⟨#[]⟩),Aa (0),Aa (0),AV.sc (.string ⟨#[]⟩)],30⟩)::m) d110)) 30 (AV.ptr 2 0)).map (·.1),some d,some (Aa (0))]) else (
N0 ⟨[(0,f),(1,(Aa g)),(4,(Aa h)),(8,(AV.ptr 0 0)),(11,(AV.ptr 1 0)),(12,(AV.ptr 2 0)),(13,w),(14,(Aa x)),(15,(AV.ptr 6 0)),(56,j),(57,(Aa i)),(58,(Aa (IntKind.wrap .i64 (e+(1))))),(59,(Ai (decide (e<i)))),(60,k),(61,(AV.agg [AV.sc (.string s77),Aa a,Aa b,AV.sc (.string s80)])),(20,(AV.ptr 100003 0)),(63,f),(64,(Aa g)),(65,l),(66,n),(67,(AV.agg [AV.sc (.string s77),Aa a,Aa b,AV.sc (.string s80)])),(68,(Aa h)),(69,(AV.agg [AV.sc (.string s91),Aa o,Aa p,Aa q,Aa r,Aa s,Aa t])),(70,u),(71,(AV.Bn [d,Aa c])),(62,(AV.Bn [d,Aa c])),(72,d),(73,(Aa c)),(21,d),(22,(Aa c)),(74,(Aa c)),(75,(Ai (c==(0)))),(76,(Ai true)),(77,f),(78,(Aa g)),(79,d),(80,(AV.agg [Aa y,Aa z])),(81,(Ai v)),(82,(Ai v)),(85,(Aa (IntKind.wrap .i64 (e+(1)))))],((100003,some ⟨[AV.sc (.string s77),Aa a,Aa b,AV.sc (.string s80)],30⟩)::(100003,some ⟨[AV.sc (.string ⟨#[]⟩),Aa (0),Aa (0),AV.sc (.string ⟨#[]⟩)],30⟩)::m),100093⟩)) else (
N0 ⟨[(0,f),(1,(Aa g)),(4,(Aa h)),(8,(AV.ptr 0 0)),(11,(AV.ptr 1 0)),(12,(AV.ptr 2 0)),(13,w),(14,(Aa x)),(15,(AV.ptr 6 0)),(56,j),(57,(Aa i)),(58,(Aa (IntKind.wrap .i64 (e+(1))))),(59,(Ai (decide (e<i)))),(60,k),(61,(AV.agg [AV.sc (.string s77),Aa a,Aa b,AV.sc (.string s80)])),(20,(AV.ptr 100003 0)),(63,f),(64,(Aa g)),(65,l),(66,n),(67,(AV.agg [AV.sc (.string s77),Aa a,Aa b,AV.sc (.string s80)])),(68,(Aa h)),(69,(AV.agg [AV.sc (.string s91),Aa o,Aa p,Aa q,Aa r,Aa s,Aa t])),(70,u),(71,(AV.Bn [d,Aa c])),(62,(AV.Bn [d,Aa c])),(72,d),(73,(Aa c)),(21,d),(22,(Aa c)),(74,(Aa c)),(75,(Ai (c==(0)))),(76,(Ai false)),(77,(AV.Bn [])),(78,(AV.Bn [])),(79,(AV.Bn [])),(80,(AV.Bn [])),(81,(AV.Bn [])),(82,(Ai false)),(85,(Aa (IntKind.wrap .i64 (e+(1)))))],((100003,some ⟨[AV.sc (.string s77),Aa a,Aa b,AV.sc (.string s80)],30⟩)::(100003,some ⟨[AV.sc (.string ⟨#[]⟩),Aa (0),Aa (0),AV.sc (.string ⟨#[]⟩)],30⟩)::m),100025⟩)) else (
A4 (Hj (Al m) 4 (AV.ptr 6 0)) fun av=>
Hz av fun aw ax ay Ab4=>
Cd aw fun s116=>
Ag ax fun az=>
Ag ay fun ba=>
Cd Ab4 fun s119=>
B4 pg (Al m) 30 (AV.ptr 2 0) (AV.agg [AV.sc (.string s116),Aa az,Aa ba,AV.sc (.string s119)]) fun bc d120=>
As R (Ad m d120) [(D7 pg (Al (Ad m d120)) 30 (AV.ptr 2 0)).map (·.1),some AV.Bg,some (Aa (8))])
noncomputable def F6 (j:AV) (k a b:Int) (o:ByteArray) (p:Int) (c:ByteArray) (d e f g h i:Int) (R:AV→Mem→Prop):Prop:=
A4 (Mb [AV.sc (.string ⟨#[]⟩),Aa (0),Aa (0),AV.sc (.string ⟨#[]⟩)] [(0,1),(1,1),(2,1),(3,1)] []) fun q=>
B4 pg (Al ((6,some ⟨[AV.sc (.string ⟨#[]⟩),Aa (0),Aa (0),AV.sc (.string ⟨#[]⟩)],30⟩)::(2,some ⟨[AV.sc (.string ⟨#[]⟩),Aa (0),Aa (0),AV.sc (.string ⟨#[]⟩)],30⟩)::(1,some ⟨[AV.sc (.string c),Aa d,Aa e,Aa f,Aa g,Aa h,Aa i],26⟩)::(0,some ⟨[Aa a,Aa b],24⟩)::[])) 30 (AV.ptr 6 0) q fun v1 d1=>
A4 (Hj (Al (Ad ((6,some ⟨[AV.sc (.string ⟨#[]⟩),Aa (0),Aa (0),AV.sc (.string ⟨#[]⟩)],30⟩)::(2,some ⟨[AV.sc (.string ⟨#[]⟩),Aa (0),Aa (0),AV.sc (.string ⟨#[]⟩)],30⟩)::(1,some ⟨[AV.sc (.string c),Aa d,Aa e,Aa f,Aa g,Aa h,Aa i],26⟩)::(0,some ⟨[Aa a,Aa b],24⟩)::[]) d1)) 2 (AV.ptr 0 0)) fun v2=>
I3 v2 fun c3 c4=>
Ag c3 fun r=>
Ag c4 fun s=>
A2 pg KK.gl (Ad ((6,some ⟨[AV.sc (.string ⟨#[]⟩),Aa (0),Aa (0),AV.sc (.string ⟨#[]⟩)],30⟩)::(2,some ⟨[AV.sc (.string ⟨#[]⟩),Aa (0),Aa (0),AV.sc (.string ⟨#[]⟩)],30⟩)::(1,some ⟨[AV.sc (.string c),Aa d,Aa e,Aa f,Aa g,Aa h,Aa i],26⟩)::(0,some ⟨[Aa a,Aa b],24⟩)::[]) d1) 43 [j,Aa k,AV.agg [Aa r,Aa s]] fun v7=>
Ag v7 fun m=>
bif (m !=(0)) then (
A4 (Hj (Al (Ad ((6,some ⟨[AV.sc (.string ⟨#[]⟩),Aa (0),Aa (0),AV.sc (.string ⟨#[]⟩)],30⟩)::(2,some ⟨[AV.sc (.string ⟨#[]⟩),Aa (0),Aa (0),AV.sc (.string ⟨#[]⟩)],30⟩)::(1,some ⟨[AV.sc (.string c),Aa d,Aa e,Aa f,Aa g,Aa h,Aa i],26⟩)::(0,some ⟨[Aa a,Aa b],24⟩)::[]) d1)) 4 (AV.ptr 6 0)) fun v9=>
Hz v9 fun O2 Kj c12 Wm=>
Cd O2 fun s14=>
Ag Kj fun ah=>
Ag c12 fun ai=>
Cd Wm fun s17=>
B4 pg (Al (Ad ((6,some ⟨[AV.sc (.string ⟨#[]⟩),Aa (0),Aa (0),AV.sc (.string ⟨#[]⟩)],30⟩)::(2,some ⟨[AV.sc (.string ⟨#[]⟩),Aa (0),Aa (0),AV.sc (.string ⟨#[]⟩)],30⟩)::(1,some ⟨[AV.sc (.string c),Aa d,Aa e,Aa f,Aa g,Aa h,Aa i],26⟩)::(0,some ⟨[Aa a,Aa b],24⟩)::[]) d1)) 30 (AV.ptr 2 0) (AV.agg [AV.sc (.string s14),Aa ah,Aa ai,AV.sc (.string s17)]) fun bf d18=>
As R (Ad (Ad ((6,some ⟨[AV.sc (.string ⟨#[]⟩),Aa (0),Aa (0),AV.sc (.string ⟨#[]⟩)],30⟩)::(2,some ⟨[AV.sc (.string ⟨#[]⟩),Aa (0),Aa (0),AV.sc (.string ⟨#[]⟩)],30⟩)::(1,some ⟨[AV.sc (.string c),Aa d,Aa e,Aa f,Aa g,Aa h,Aa i],26⟩)::(0,some ⟨[Aa a,Aa b],24⟩)::[]) d1) d18) [(D7 pg (Al (Ad (Ad ((6,some ⟨[AV.sc (.string ⟨#[]⟩),Aa (0),Aa (0),AV.sc (.string ⟨#[]⟩)],30⟩)::(2,some ⟨[AV.sc (.string ⟨#[]⟩),Aa (0),Aa (0),AV.sc (.string ⟨#[]⟩)],30⟩)::(1,some ⟨[AV.sc (.string c),Aa d,Aa e,Aa f,Aa g,Aa h,Aa i],26⟩)::(0,some ⟨[Aa a,Aa b],24⟩)::[]) d1) d18)) 30 (AV.ptr 2 0)).map (·.1),some AV.Bg,some (Aa m)]) else (
A4 (De 1 j (Aa k)) fun t=>
A4 (Ek (Al (Ad ((6,some ⟨[AV.sc (.string ⟨#[]⟩),Aa (0),Aa (0),AV.sc (.string ⟨#[]⟩)],30⟩)::(2,some ⟨[AV.sc (.string ⟨#[]⟩),Aa (0),Aa (0),AV.sc (.string ⟨#[]⟩)],30⟩)::(1,some ⟨[AV.sc (.string c),Aa d,Aa e,Aa f,Aa g,Aa h,Aa i],26⟩)::(0,some ⟨[Aa a,Aa b],24⟩)::[]) d1)) t) fun u=>
A4 (Hj (Al (Ad ((6,some ⟨[AV.sc (.string ⟨#[]⟩),Aa (0),Aa (0),AV.sc (.string ⟨#[]⟩)],30⟩)::(2,some ⟨[AV.sc (.string ⟨#[]⟩),Aa (0),Aa (0),AV.sc (.string ⟨#[]⟩)],30⟩)::(1,some ⟨[AV.sc (.string c),Aa d,Aa e,Aa f,Aa g,Aa h,Aa i],26⟩)::(0,some ⟨[Aa a,Aa b],24⟩)::[]) d1)) 7 (AV.ptr 1 0)) fun aj=>
vV aj fun ak al am an ao ap c28=>
Cd ak fun s29=>
Ag al fun v=>
Ag am fun w=>
Ag an fun x=>
Ag ao fun y=>
Ag ap fun z=>
Ag c28 fun aa=>
A2 pg KK.gl (Ad ((6,some ⟨[AV.sc (.string ⟨#[]⟩),Aa (0),Aa (0),AV.sc (.string ⟨#[]⟩)],30⟩)::(2,some ⟨[AV.sc (.string ⟨#[]⟩),Aa (0),Aa (0),AV.sc (.string ⟨#[]⟩)],30⟩)::(1,some ⟨[AV.sc (.string c),Aa d,Aa e,Aa f,Aa g,Aa h,Aa i],26⟩)::(0,some ⟨[Aa a,Aa b],24⟩)::[]) d1) 44 [AV.sc (.string o),u,Aa p,AV.agg [AV.sc (.string s29),Aa v,Aa w,Aa x,Aa y,Aa z,Aa aa]] fun aq=>
E7 aq fun n ar=>
Ag ar fun l=>
bif (l !=(0)) then (
A4 (Hj (Al (Ad ((6,some ⟨[AV.sc (.string ⟨#[]⟩),Aa (0),Aa (0),AV.sc (.string ⟨#[]⟩)],30⟩)::(2,some ⟨[AV.sc (.string ⟨#[]⟩),Aa (0),Aa (0),AV.sc (.string ⟨#[]⟩)],30⟩)::(1,some ⟨[AV.sc (.string c),Aa d,Aa e,Aa f,Aa g,Aa h,Aa i],26⟩)::(0,some ⟨[Aa a,Aa b],24⟩)::[]) d1)) 4 (AV.ptr 6 0)) fun au=>
Hz au fun c41 c42 c43 c44=>
Cd c41 fun s45=>
Ag c42 fun av=>
Ag c43 fun aw=>
Cd c44 fun s48=>
B4 pg (Al (Ad ((6,some ⟨[AV.sc (.string ⟨#[]⟩),Aa (0),Aa (0),AV.sc (.string ⟨#[]⟩)],30⟩)::(2,some ⟨[AV.sc (.string ⟨#[]⟩),Aa (0),Aa (0),AV.sc (.string ⟨#[]⟩)],30⟩)::(1,some ⟨[AV.sc (.string c),Aa d,Aa e,Aa f,Aa g,Aa h,Aa i],26⟩)::(0,some ⟨[Aa a,Aa b],24⟩)::[]) d1)) 30 (AV.ptr 2 0) (AV.agg [AV.sc (.string s45),Aa av,Aa aw,AV.sc (.string s48)]) fun bg d49=>
As R (Ad (Ad ((6,some ⟨[AV.sc (.string ⟨#[]⟩),Aa (0),Aa (0),AV.sc (.string ⟨#[]⟩)],30⟩)::(2,some ⟨[AV.sc (.string ⟨#[]⟩),Aa (0),Aa (0),AV.sc (.string ⟨#[]⟩)],30⟩)::(1,some ⟨[AV.sc (.string c),Aa d,Aa e,Aa f,Aa g,Aa h,Aa i],26⟩)::(0,some ⟨[Aa a,Aa b],24⟩)::[]) d1) d49) [(D7 pg (Al (Ad (Ad ((6,some ⟨[AV.sc (.string ⟨#[]⟩),Aa (0),Aa (0),AV.sc (.string ⟨#[]⟩)],30⟩)::(2,some ⟨[AV.sc (.string ⟨#[]⟩),Aa (0),Aa (0),AV.sc (.string ⟨#[]⟩)],30⟩)::(1,some ⟨[AV.sc (.string c),Aa d,Aa e,Aa f,Aa g,Aa h,Aa i],26⟩)::(0,some ⟨[Aa a,Aa b],24⟩)::[]) d1) d49)) 30 (AV.ptr 2 0)).map (·.1),some AV.Bg,some (Aa l)]) else (
A4 (De 1 j (Aa k)) fun ab=>
A4 (Ek (Al (Ad ((6,some ⟨[AV.sc (.string ⟨#[]⟩),Aa (0),Aa (0),AV.sc (.string ⟨#[]⟩)],30⟩)::(2,some ⟨[AV.sc (.string ⟨#[]⟩),Aa (0),Aa (0),AV.sc (.string ⟨#[]⟩)],30⟩)::(1,some ⟨[AV.sc (.string c),Aa d,Aa e,Aa f,Aa g,Aa h,Aa i],26⟩)::(0,some ⟨[Aa a,Aa b],24⟩)::[]) d1)) ab) fun ad=>
A4 (Hj (Al (Ad ((6,some ⟨[AV.sc (.string ⟨#[]⟩),Aa (0),Aa (0),AV.sc (.string ⟨#[]⟩)],30⟩)::(2,some ⟨[AV.sc (.string ⟨#[]⟩),Aa (0),Aa (0),AV.sc (.string ⟨#[]⟩)],30⟩)::(1,some ⟨[AV.sc (.string c),Aa d,Aa e,Aa f,Aa g,Aa h,Aa i],26⟩)::(0,some ⟨[Aa a,Aa b],24⟩)::[]) d1)) 2 (AV.ptr 0 0)) fun ax=>
I3 ax fun ay c54=>
Ag ay fun ae=>
Ag c54 fun af=>
A2 pg KK.gl (Ad ((6,some ⟨[AV.sc (.string ⟨#[]⟩),Aa (0),Aa (0),AV.sc (.string ⟨#[]⟩)],30⟩)::(2,some ⟨[AV.sc (.string ⟨#[]⟩),Aa (0),Aa (0),AV.sc (.string ⟨#[]⟩)],30⟩)::(1,some ⟨[AV.sc (.string c),Aa d,Aa e,Aa f,Aa g,Aa h,Aa i],26⟩)::(0,some ⟨[Aa a,Aa b],24⟩)::[]) d1) 45 [j,Aa k,ad,AV.agg [Aa ae,Aa af]] fun az=>
Ha az fun ag=>
bif ag then (
A4 (Hj (Al (Ad ((6,some ⟨[AV.sc (.string ⟨#[]⟩),Aa (0),Aa (0),AV.sc (.string ⟨#[]⟩)],30⟩)::(2,some ⟨[AV.sc (.string ⟨#[]⟩),Aa (0),Aa (0),AV.sc (.string ⟨#[]⟩)],30⟩)::(1,some ⟨[AV.sc (.string c),Aa d,Aa e,Aa f,Aa g,Aa h,Aa i],26⟩)::(0,some ⟨[Aa a,Aa b],24⟩)::[]) d1)) 4 (AV.ptr 6 0)) fun ba=>
Hz ba fun c60 c61 c62 zK=>
Cd c60 fun s64=>
Ag c61 fun bb=>
Ag c62 fun bc=>
Cd zK fun s67=>
B4 pg (Al (Ad ((6,some ⟨[AV.sc (.string ⟨#[]⟩),Aa (0),Aa (0),AV.sc (.string ⟨#[]⟩)],30⟩)::(2,some ⟨[AV.sc (.string ⟨#[]⟩),Aa (0),Aa (0),AV.sc (.string ⟨#[]⟩)],30⟩)::(1,some ⟨[AV.sc (.string c),Aa d,Aa e,Aa f,Aa g,Aa h,Aa i],26⟩)::(0,some ⟨[Aa a,Aa b],24⟩)::[]) d1)) 30 (AV.ptr 2 0) (AV.agg [AV.sc (.string s64),Aa bb,Aa bc,AV.sc (.string s67)]) fun bh d68=>
As R (Ad (Ad ((6,some ⟨[AV.sc (.string ⟨#[]⟩),Aa (0),Aa (0),AV.sc (.string ⟨#[]⟩)],30⟩)::(2,some ⟨[AV.sc (.string ⟨#[]⟩),Aa (0),Aa (0),AV.sc (.string ⟨#[]⟩)],30⟩)::(1,some ⟨[AV.sc (.string c),Aa d,Aa e,Aa f,Aa g,Aa h,Aa i],26⟩)::(0,some ⟨[Aa a,Aa b],24⟩)::[]) d1) d68) [(D7 pg (Al (Ad (Ad ((6,some ⟨[AV.sc (.string ⟨#[]⟩),Aa (0),Aa (0),AV.sc (.string ⟨#[]⟩)],30⟩)::(2,some ⟨[AV.sc (.string ⟨#[]⟩),Aa (0),Aa (0),AV.sc (.string ⟨#[]⟩)],30⟩)::(1,some ⟨[AV.sc (.string c),Aa d,Aa e,Aa f,Aa g,Aa h,Aa i],26⟩)::(0,some ⟨[Aa a,Aa b],24⟩)::[]) d1) d68)) 30 (AV.ptr 2 0)).map (·.1),some AV.Bg,some (Aa (11))]) else (
A4 (Da n) fun bd=>
Ag bd fun be=>
Ff pg KK 87 0 (.loop Ash) ⟨[(0,j),(1,(Aa k)),(2,(AV.agg [Aa a,Aa b])),(3,(AV.sc (.string o))),(4,(Aa p)),(5,(AV.agg [AV.sc (.string c),Aa d,Aa e,Aa f,Aa g,Aa h,Aa i])),(8,(AV.ptr 0 0)),(11,(AV.ptr 1 0)),(12,(AV.ptr 2 0)),(13,AV.Bg),(14,(Aa (0))),(23,q),(15,(AV.ptr 6 0)),(24,j),(25,(Aa k)),(26,(AV.agg [Aa r,Aa s])),(27,(Aa m)),(16,(Aa m)),(28,(Aa m)),(29,(Ai (m !=(0)))),(33,(AV.sc (.string o))),(34,j),(35,(Aa k)),(36,t),(37,u),(38,(Aa p)),(39,(AV.agg [AV.sc (.string s29),Aa v,Aa w,Aa x,Aa y,Aa z,Aa aa])),(40,(AV.Bn [n,Aa l])),(32,(AV.Bn [n,Aa l])),(41,n),(42,(Aa l)),(17,n),(18,(Aa l)),(43,(Aa l)),(44,(Ai (l !=(0)))),(47,j),(48,(Aa k)),(49,j),(50,(Aa k)),(51,ab),(52,ad),(53,(AV.agg [Aa ae,Aa af])),(54,(Ai ag)),(56,n),(57,(Aa be)),(58,(Aa (0)))],Ad ((6,some ⟨[AV.sc (.string ⟨#[]⟩),Aa (0),Aa (0),AV.sc (.string ⟨#[]⟩)],30⟩)::(2,some ⟨[AV.sc (.string ⟨#[]⟩),Aa (0),Aa (0),AV.sc (.string ⟨#[]⟩)],30⟩)::(1,some ⟨[AV.sc (.string c),Aa d,Aa e,Aa f,Aa g,Aa h,Aa i],26⟩)::(0,some ⟨[Aa a,Aa b],24⟩)::[]) d1,104⟩ (Aos R))))
noncomputable def c47:Code:=((Tryz.f47).body).getD .skip
noncomputable def q47 (R:AV→Mem→Prop):A1→St→Prop:=Cm pg Tryz.f47 R
noncomputable def F47 (d:ByteArray) (a b:Int) (c:ByteArray) (R:AV→Mem→Prop):Prop:=
bif (decide (a>(2))) then (
A4 (Mg 7 1 (O4 1) (Aa a)) fun e=>
A4 (Ek (Al ((0,some ⟨[AV.sc (.string d),Aa a,Aa b,AV.sc (.string c)],30⟩)::[])) e) fun f=>
Cd f fun s2=>
A4 (Ce pg (.binOp .add 9 (.tmp 0) (.tmp 1) 9) 9 [AV.sc (.string s2),AV.sc (.string ⟨#[32]⟩)] (Al ((0,some ⟨[AV.sc (.string d),Aa a,Aa b,AV.sc (.string c)],30⟩)::[])) 9) fun g=>
Cd g fun s4=>
A4 (Ce pg (.binOp .add 9 (.tmp 0) (.tmp 1) 9) 9 [AV.sc (.string s4),AV.sc (.string c)] (Al ((0,some ⟨[AV.sc (.string d),Aa a,Aa b,AV.sc (.string c)],30⟩)::[])) 12) fun h=>
Cd h fun s6=>
As R ((0,some ⟨[AV.sc (.string d),Aa a,Aa b,AV.sc (.string c)],30⟩)::[]) [some (AV.sc (.string s6))]) else (
A4 (Mg 7 1 (O4 1) (Aa a)) fun i=>
A4 (Ek (Al ((0,some ⟨[AV.sc (.string d),Aa a,Aa b,AV.sc (.string c)],30⟩)::[])) i) fun j=>
Cd j fun s9=>
A4 (Ce pg (.binOp .add 9 (.tmp 0) (.tmp 1) 9) 9 [AV.sc (.string s9),AV.sc (.string ⟨#[32]⟩)] (Al ((0,some ⟨[AV.sc (.string d),Aa a,Aa b,AV.sc (.string c)],30⟩)::[])) 9) fun k=>
Cd k fun s11=>
A2 pg KK.gl ((0,some ⟨[AV.sc (.string d),Aa a,Aa b,AV.sc (.string c)],30⟩)::[]) 122 [Aa b] fun l=>
Cd l fun s13=>
A4 (Ce pg (.binOp .add 9 (.tmp 0) (.tmp 1) 9) 9 [AV.sc (.string s11),AV.sc (.string s13)] (Al ((0,some ⟨[AV.sc (.string d),Aa a,Aa b,AV.sc (.string c)],30⟩)::[])) 13) fun m=>
Cd m fun s15=>
As R ((0,some ⟨[AV.sc (.string d),Aa a,Aa b,AV.sc (.string c)],30⟩)::[]) [some (AV.sc (.string s15))])
noncomputable def c7:Code:=((Tryz.f7).body).getD .skip
noncomputable def q7 (R:AV→Mem→Prop):A1→St→Prop:=Cm pg Tryz.f7 R
noncomputable def F7 (a:ByteArray) (b c:Int) (d:ByteArray) (R:AV→Mem→Prop):Prop:=
A2 pg KK.gl ((0,some ⟨[AV.sc (.string a),Aa b,Aa c,AV.sc (.string d)],30⟩)::[]) 46 [AV.agg [AV.sc (.string a),Aa b,Aa c,AV.sc (.string d)]] fun f=>
Ag f fun e=>
bif (e !=(0)) then (
As R ((0,some ⟨[AV.sc (.string a),Aa b,Aa c,AV.sc (.string d)],30⟩)::[]) [some (AV.sc (.string ⟨#[]⟩)),some (Aa e)]) else (
A2 pg KK.gl ((0,some ⟨[AV.sc (.string a),Aa b,Aa c,AV.sc (.string d)],30⟩)::[]) 47 [AV.agg [AV.sc (.string a),Aa b,Aa c,AV.sc (.string d)]] fun g=>
Cd g fun s3=>
A4 (Ce pg (.binOp .add 9 (.tmp 0) (.tmp 1) 9) 9 [AV.sc (.string s3),AV.sc (.string ⟨#[32]⟩)] (Al ((0,some ⟨[AV.sc (.string a),Aa b,Aa c,AV.sc (.string d)],30⟩)::[])) 73) fun h=>
Cd h fun s5=>
A4 (Ce pg (.binOp .add 9 (.tmp 0) (.tmp 1) 9) 9 [AV.sc (.string s5),AV.sc (.string a)] (Al ((0,some ⟨[AV.sc (.string a),Aa b,Aa c,AV.sc (.string d)],30⟩)::[])) 76) fun i=>
Cd i fun s7=>
As R ((0,some ⟨[AV.sc (.string a),Aa b,Aa c,AV.sc (.string d)],30⟩)::[]) [some (AV.sc (.string s7)),some (Aa (0))])
noncomputable def c49:Code:=((Tryz.f49).body).getD .skip
noncomputable def q49 (R:AV→Mem→Prop):A1→St→Prop:=Cm pg Tryz.f49 R
noncomputable def F49 (e f c:ByteArray) (R:AV→Mem→Prop):Prop:=
A2 pg KK.gl ((0,some ⟨[AV.sc (.string ⟨#[]⟩),Aa (0),Aa (0),AV.sc (.string ⟨#[]⟩)],30⟩)::[]) 124 [AV.sc (.string f)] fun g=>
Ag g fun h=>
A4 (Mb [AV.sc (.string ⟨#[]⟩),Aa (0),Aa (0),AV.sc (.string ⟨#[]⟩)] [(0,1),(1,1),(2,1),(3,1)] [(0,(AV.sc (.string e))),(1,(Aa h))]) fun i=>
B4 pg (Al ((69,some ⟨[AV.sc (.string ⟨#[]⟩),Aa (0),Aa (0),AV.sc (.string ⟨#[]⟩)],30⟩)::(0,some ⟨[AV.sc (.string ⟨#[]⟩),Aa (0),Aa (0),AV.sc (.string ⟨#[]⟩)],30⟩)::[])) 30 (AV.ptr 69 0) i fun v3 d3=>
A4 (Ek (Al (Ad ((69,some ⟨[AV.sc (.string ⟨#[]⟩),Aa (0),Aa (0),AV.sc (.string ⟨#[]⟩)],30⟩)::(0,some ⟨[AV.sc (.string ⟨#[]⟩),Aa (0),Aa (0),AV.sc (.string ⟨#[]⟩)],30⟩)::[]) d3)) (AV.ptr 69 1)) fun j=>
Ag j fun k=>
bif (decide (k<(0))) then (
A4 (Hj (Al (Ad ((69,some ⟨[AV.sc (.string ⟨#[]⟩),Aa (0),Aa (0),AV.sc (.string ⟨#[]⟩)],30⟩)::(0,some ⟨[AV.sc (.string ⟨#[]⟩),Aa (0),Aa (0),AV.sc (.string ⟨#[]⟩)],30⟩)::[]) d3)) 4 (AV.ptr 69 0)) fun l=>
Hz l fun c7 c8 c9 O2=>
Cd c7 fun s11=>
Ag c8 fun m=>
Ag c9 fun n=>
Cd O2 fun s14=>
B4 pg (Al (Ad ((69,some ⟨[AV.sc (.string ⟨#[]⟩),Aa (0),Aa (0),AV.sc (.string ⟨#[]⟩)],30⟩)::(0,some ⟨[AV.sc (.string ⟨#[]⟩),Aa (0),Aa (0),AV.sc (.string ⟨#[]⟩)],30⟩)::[]) d3)) 30 (AV.ptr 0 0) (AV.agg [AV.sc (.string s11),Aa m,Aa n,AV.sc (.string s14)]) fun aj d15=>
As R (Ad (Ad ((69,some ⟨[AV.sc (.string ⟨#[]⟩),Aa (0),Aa (0),AV.sc (.string ⟨#[]⟩)],30⟩)::(0,some ⟨[AV.sc (.string ⟨#[]⟩),Aa (0),Aa (0),AV.sc (.string ⟨#[]⟩)],30⟩)::[]) d3) d15) [(D7 pg (Al (Ad (Ad ((69,some ⟨[AV.sc (.string ⟨#[]⟩),Aa (0),Aa (0),AV.sc (.string ⟨#[]⟩)],30⟩)::(0,some ⟨[AV.sc (.string ⟨#[]⟩),Aa (0),Aa (0),AV.sc (.string ⟨#[]⟩)],30⟩)::[]) d3) d15)) 30 (AV.ptr 0 0)).map (·.1),some (Ai false)]) else (
A4 (Ek (Al (Ad ((69,some ⟨[AV.sc (.string ⟨#[]⟩),Aa (0),Aa (0),AV.sc (.string ⟨#[]⟩)],30⟩)::(0,some ⟨[AV.sc (.string ⟨#[]⟩),Aa (0),Aa (0),AV.sc (.string ⟨#[]⟩)],30⟩)::[]) d3)) (AV.ptr 69 1)) fun o=>
Ag o fun p=>
bif (decide (p>(2))) then (
B4 pg (Al (Ad ((69,some ⟨[AV.sc (.string ⟨#[]⟩),Aa (0),Aa (0),AV.sc (.string ⟨#[]⟩)],30⟩)::(0,some ⟨[AV.sc (.string ⟨#[]⟩),Aa (0),Aa (0),AV.sc (.string ⟨#[]⟩)],30⟩)::[]) d3)) 9 (AV.ptr 69 3) (AV.sc (.string c)) fun ak d18=>
A4 (Hj (Al (Ad (Ad ((69,some ⟨[AV.sc (.string ⟨#[]⟩),Aa (0),Aa (0),AV.sc (.string ⟨#[]⟩)],30⟩)::(0,some ⟨[AV.sc (.string ⟨#[]⟩),Aa (0),Aa (0),AV.sc (.string ⟨#[]⟩)],30⟩)::[]) d3) d18)) 4 (AV.ptr 69 0)) fun q=>
Hz q fun r s t u=>
Cd r fun s24=>
Ag s fun v=>
Ag t fun w=>
Cd u fun s27=>
B4 pg (Al (Ad (Ad ((69,some ⟨[AV.sc (.string ⟨#[]⟩),Aa (0),Aa (0),AV.sc (.string ⟨#[]⟩)],30⟩)::(0,some ⟨[AV.sc (.string ⟨#[]⟩),Aa (0),Aa (0),AV.sc (.string ⟨#[]⟩)],30⟩)::[]) d3) d18)) 30 (AV.ptr 0 0) (AV.agg [AV.sc (.string s24),Aa v,Aa w,AV.sc (.string s27)]) fun al d28=>
As R (Ad (Ad (Ad ((69,some ⟨[AV.sc (.string ⟨#[]⟩),Aa (0),Aa (0),AV.sc (.string ⟨#[]⟩)],30⟩)::(0,some ⟨[AV.sc (.string ⟨#[]⟩),Aa (0),Aa (0),AV.sc (.string ⟨#[]⟩)],30⟩)::[]) d3) d18) d28) [(D7 pg (Al (Ad (Ad (Ad ((69,some ⟨[AV.sc (.string ⟨#[]⟩),Aa (0),Aa (0),AV.sc (.string ⟨#[]⟩)],30⟩)::(0,some ⟨[AV.sc (.string ⟨#[]⟩),Aa (0),Aa (0),AV.sc (.string ⟨#[]⟩)],30⟩)::[]) d3) d18) d28)) 30 (AV.ptr 0 0)).map (·.1),some (Ai true)]) else (
A2 pg KK.gl (Ad ((69,some ⟨[AV.sc (.string ⟨#[]⟩),Aa (0),Aa (0),AV.sc (.string ⟨#[]⟩)],30⟩)::(0,some ⟨[AV.sc (.string ⟨#[]⟩),Aa (0),Aa (0),AV.sc (.string ⟨#[]⟩)],30⟩)::[]) d3) 125 [AV.sc (.string c)] fun x=>
E7 x fun y z=>
Ag y fun d=>
B4 pg (Al (Ad ((69,some ⟨[AV.sc (.string ⟨#[]⟩),Aa (0),Aa (0),AV.sc (.string ⟨#[]⟩)],30⟩)::(0,some ⟨[AV.sc (.string ⟨#[]⟩),Aa (0),Aa (0),AV.sc (.string ⟨#[]⟩)],30⟩)::[]) d3)) 3 (AV.ptr 69 2) (Aa d) fun am d33=>
H0 (Hj (Cy (Ad (Ad ((69,some ⟨[AV.sc (.string ⟨#[]⟩),Aa (0),Aa (0),AV.sc (.string ⟨#[]⟩)],30⟩)::(0,some ⟨[AV.sc (.string ⟨#[]⟩),Aa (0),Aa (0),AV.sc (.string ⟨#[]⟩)],30⟩)::[]) d3) d33) (A3 (AV.ptr 69 0)++([]))) 4 (AV.ptr 69 0)) fun aa d34=>
Hz aa fun ab ad ae af=>
Cd ab fun s39=>
Ag ad fun a=>
Ag ae fun b=>
Cd af fun s42=>
H0 (Ce pg (.binOp .eql 245 (.tmp 0) (.const .nilIface) 245) 4 [z] (Cy (Ad (Ad (Ad ((69,some ⟨[AV.sc (.string ⟨#[]⟩),Aa (0),Aa (0),AV.sc (.string ⟨#[]⟩)],30⟩)::(0,some ⟨[AV.sc (.string ⟨#[]⟩),Aa (0),Aa (0),AV.sc (.string ⟨#[]⟩)],30⟩)::[]) d3) d33) d34) []) 154) fun ag d43=>
Ha ag fun ah=>
bif ah then (
Uy pg KK.gl (Ad (Ad (Ad (Ad ((69,some ⟨[AV.sc (.string ⟨#[]⟩),Aa (0),Aa (0),AV.sc (.string ⟨#[]⟩)],30⟩)::(0,some ⟨[AV.sc (.string ⟨#[]⟩),Aa (0),Aa (0),AV.sc (.string ⟨#[]⟩)],30⟩)::[]) d3) d33) d34) d43) 157 122 [Aa d] fun ai d45 ft45=>
Cd ai fun s46=>
B4 pg (Cy (Ad (Ad (Ad (Ad (Ad ((69,some ⟨[AV.sc (.string ⟨#[]⟩),Aa (0),Aa (0),AV.sc (.string ⟨#[]⟩)],30⟩)::(0,some ⟨[AV.sc (.string ⟨#[]⟩),Aa (0),Aa (0),AV.sc (.string ⟨#[]⟩)],30⟩)::[]) d3) d33) d34) d43) d45) (A3 (AV.ptr 0 0)++(A3 (AV.agg [AV.sc (.string s39),Aa a,Aa b,AV.sc (.string s42)])++([])))) 30 (AV.ptr 0 0) (AV.agg [AV.sc (.string s39),Aa a,Aa b,AV.sc (.string s42)]) fun an d47=>
Ic (E3 [0,0,2,6,14,30,14,126,254,63,1023] [⟨d34,A3 (AV.ptr 69 0)++([])⟩,⟨[],[]⟩,⟨d43,[]⟩,⟨[],[]⟩,⟨[],[]⟩,⟨d45,ft45⟩,⟨[],[]⟩,⟨[],[]⟩,⟨[],[]⟩,⟨d47,A3 (AV.ptr 0 0)++(A3 (AV.agg [AV.sc (.string s39),Aa a,Aa b,AV.sc (.string s42)])++([]))⟩,⟨[],[]⟩]) (As R (Ad (Ad (Ad (Ad (Ad (Ad ((69,some ⟨[AV.sc (.string ⟨#[]⟩),Aa (0),Aa (0),AV.sc (.string ⟨#[]⟩)],30⟩)::(0,some ⟨[AV.sc (.string ⟨#[]⟩),Aa (0),Aa (0),AV.sc (.string ⟨#[]⟩)],30⟩)::[]) d3) d33) d34) d43) d45) d47) [(D7 pg (Al (Ad (Ad (Ad (Ad (Ad (Ad ((69,some ⟨[AV.sc (.string ⟨#[]⟩),Aa (0),Aa (0),AV.sc (.string ⟨#[]⟩)],30⟩)::(0,some ⟨[AV.sc (.string ⟨#[]⟩),Aa (0),Aa (0),AV.sc (.string ⟨#[]⟩)],30⟩)::[]) d3) d33) d34) d43) d45) d47)) 30 (AV.ptr 0 0)).map (·.1),some (Ai ((s46).toList==(c).toList))])) else (
B4 pg (Cy (Ad (Ad (Ad (Ad ((69,some ⟨[AV.sc (.string ⟨#[]⟩),Aa (0),Aa (0),AV.sc (.string ⟨#[]⟩)],30⟩)::(0,some ⟨[AV.sc (.string ⟨#[]⟩),Aa (0),Aa (0),AV.sc (.string ⟨#[]⟩)],30⟩)::[]) d3) d33) d34) d43) (A3 (AV.ptr 0 0)++(A3 (AV.agg [AV.sc (.string s39),Aa a,Aa b,AV.sc (.string s42)])++([])))) 30 (AV.ptr 0 0) (AV.agg [AV.sc (.string s39),Aa a,Aa b,AV.sc (.string s42)]) fun ao d48=>
Ic (E3 [0,0,2,6,14,30,14,126,254,63,1023] [⟨d34,A3 (AV.ptr 69 0)++([])⟩,⟨[],[]⟩,⟨d43,[]⟩,⟨[],[]⟩,⟨[],[]⟩,⟨[],[]⟩,⟨[],[]⟩,⟨[],[]⟩,⟨[],[]⟩,⟨d48,A3 (AV.ptr 0 0)++(A3 (AV.agg [AV.sc (.string s39),Aa a,Aa b,AV.sc (.string s42)])++([]))⟩,⟨[],[]⟩]) (As R (Ad (Ad (Ad (Ad (Ad ((69,some ⟨[AV.sc (.string ⟨#[]⟩),Aa (0),Aa (0),AV.sc (.string ⟨#[]⟩)],30⟩)::(0,some ⟨[AV.sc (.string ⟨#[]⟩),Aa (0),Aa (0),AV.sc (.string ⟨#[]⟩)],30⟩)::[]) d3) d33) d34) d43) d48) [(D7 pg (Al (Ad (Ad (Ad (Ad (Ad ((69,some ⟨[AV.sc (.string ⟨#[]⟩),Aa (0),Aa (0),AV.sc (.string ⟨#[]⟩)],30⟩)::(0,some ⟨[AV.sc (.string ⟨#[]⟩),Aa (0),Aa (0),AV.sc (.string ⟨#[]⟩)],30⟩)::[]) d3) d33) d34) d43) d48)) 30 (AV.ptr 0 0)).map (·.1),some (Ai false)]))))
noncomputable def c8:Code:=((Tryz.f8).body).getD .skip
noncomputable def q8 (R:AV→Mem→Prop):A1→St→Prop:=Cm pg Tryz.f8 R
noncomputable def F8 (l:ByteArray) (R:AV→Mem→Prop):Prop:=
A4 (Ce pg (.call ⟨.builtin .len,#[.tmp 0],#[9]⟩) 3 [AV.sc (.string l)] (Al ((0,some ⟨[AV.sc (.string ⟨#[]⟩),Aa (0),Aa (0),AV.sc (.string ⟨#[]⟩)],30⟩)::[])) 4) fun p=>
Ag p fun q=>
bif (decide (q>(120))) then (
A4 (Mb [AV.sc (.string ⟨#[]⟩),Aa (0),Aa (0),AV.sc (.string ⟨#[]⟩)] [(0,1),(1,1),(2,1),(3,1)] []) fun r=>
B4 pg (Al ((0,some ⟨[AV.sc (.string ⟨#[]⟩),Aa (0),Aa (0),AV.sc (.string ⟨#[]⟩)],30⟩)::[])) 30 (AV.ptr 0 0) r fun v3 d3=>
As R (Ad ((0,some ⟨[AV.sc (.string ⟨#[]⟩),Aa (0),Aa (0),AV.sc (.string ⟨#[]⟩)],30⟩)::[]) d3) [(D7 pg (Al (Ad ((0,some ⟨[AV.sc (.string ⟨#[]⟩),Aa (0),Aa (0),AV.sc (.string ⟨#[]⟩)],30⟩)::[]) d3)) 30 (AV.ptr 0 0)).map (·.1),some (Ai false),some (Aa (2))]) else (
A2 pg KK.gl ((0,some ⟨[AV.sc (.string ⟨#[]⟩),Aa (0),Aa (0),AV.sc (.string ⟨#[]⟩)],30⟩)::[]) 48 [AV.sc (.string l),AV.sc (.string ⟨#[32]⟩)] fun a=>
A4 (Da a) fun s=>
Ag s fun t=>
bif (t !=(3)) then (
A4 (Mb [AV.sc (.string ⟨#[]⟩),Aa (0),Aa (0),AV.sc (.string ⟨#[]⟩)] [(0,1),(1,1),(2,1),(3,1)] []) fun u=>
B4 pg (Al ((0,some ⟨[AV.sc (.string ⟨#[]⟩),Aa (0),Aa (0),AV.sc (.string ⟨#[]⟩)],30⟩)::[])) 30 (AV.ptr 0 0) u fun v8 d8=>
As R (Ad ((0,some ⟨[AV.sc (.string ⟨#[]⟩),Aa (0),Aa (0),AV.sc (.string ⟨#[]⟩)],30⟩)::[]) d8) [(D7 pg (Al (Ad ((0,some ⟨[AV.sc (.string ⟨#[]⟩),Aa (0),Aa (0),AV.sc (.string ⟨#[]⟩)],30⟩)::[]) d8)) 30 (AV.ptr 0 0)).map (·.1),some (Ai false),some (Aa (5))]) else (
H0 (De 1 a (Aa (0))) fun b d9=>
H0 (Ek (Cy (Ad ((0,some ⟨[AV.sc (.string ⟨#[]⟩),Aa (0),Aa (0),AV.sc (.string ⟨#[]⟩)],30⟩)::[]) d9) (A3 b++([]))) b) fun v d10=>
Cd v fun s11=>
H0 (De 1 a (Aa (1))) fun c d12=>
H0 (Ek (Cy (Ad (Ad (Ad ((0,some ⟨[AV.sc (.string ⟨#[]⟩),Aa (0),Aa (0),AV.sc (.string ⟨#[]⟩)],30⟩)::[]) d9) d10) d12) (A3 c++([]))) c) fun w d13=>
Cd w fun s14=>
H0 (De 1 a (Aa (2))) fun d d15=>
H0 (Ek (Cy (Ad (Ad (Ad (Ad (Ad ((0,some ⟨[AV.sc (.string ⟨#[]⟩),Aa (0),Aa (0),AV.sc (.string ⟨#[]⟩)],30⟩)::[]) d9) d10) d12) d13) d15) (A3 d++([]))) d) fun x d16=>
Cd x fun s17=>
Uy pg KK.gl (Ad (Ad (Ad (Ad (Ad (Ad ((0,some ⟨[AV.sc (.string ⟨#[]⟩),Aa (0),Aa (0),AV.sc (.string ⟨#[]⟩)],30⟩)::[]) d9) d10) d12) d13) d15) d16) 85 49 [AV.sc (.string s11),AV.sc (.string s14),AV.sc (.string s17)] fun y d18 ft18=>
E7 y fun z aa=>
Hz z fun ab ad ae af=>
Cd ab fun s25=>
Ag ad fun e=>
Ag ae fun f=>
Cd af fun s28=>
Ha aa fun m=>
B4 pg (Cy ((89,some ⟨[AV.sc (.string ⟨#[]⟩),Aa (0),Aa (0),AV.sc (.string ⟨#[]⟩)],30⟩)::(Ad (Ad (Ad (Ad (Ad (Ad (Ad ((0,some ⟨[AV.sc (.string ⟨#[]⟩),Aa (0),Aa (0),AV.sc (.string ⟨#[]⟩)],30⟩)::[]) d9) d10) d12) d13) d15) d16) d18)) (A3 (AV.ptr 89 0)++(A3 (AV.agg [AV.sc (.string s25),Aa e,Aa f,AV.sc (.string s28)])++([])))) 30 (AV.ptr 89 0) (AV.agg [AV.sc (.string s25),Aa e,Aa f,AV.sc (.string s28)]) fun bo d30=>
Ic (E3 [0,1,3,0,8,24,0,64,192,511,1023,2047,2047,0,12287,32767] [⟨[],[]⟩,⟨d9,[]⟩,⟨d10,A3 b++([])⟩,⟨[],[]⟩,⟨d12,[]⟩,⟨d13,A3 c++([])⟩,⟨[],[]⟩,⟨d15,[]⟩,⟨d16,A3 d++([])⟩,⟨d18,ft18⟩,⟨[],[]⟩,⟨[],[]⟩,⟨[],[]⟩,⟨[(89,some ⟨[AV.sc (.string ⟨#[]⟩),Aa (0),Aa (0),AV.sc (.string ⟨#[]⟩)],30⟩)],[]⟩,⟨d30,A3 (AV.ptr 89 0)++(A3 (AV.agg [AV.sc (.string s25),Aa e,Aa f,AV.sc (.string s28)])++([]))⟩,⟨[],[]⟩]) (bif (!m) then (
H0 (De 1 a (Aa (2))) fun g d31=>
H0 (Ek (Cy (Ad (Ad ((89,some ⟨[AV.sc (.string ⟨#[]⟩),Aa (0),Aa (0),AV.sc (.string ⟨#[]⟩)],30⟩)::(Ad (Ad (Ad (Ad (Ad (Ad (Ad ((0,some ⟨[AV.sc (.string ⟨#[]⟩),Aa (0),Aa (0),AV.sc (.string ⟨#[]⟩)],30⟩)::[]) d9) d10) d12) d13) d15) d16) d18)) d30) d31) (A3 g++([]))) g) fun ag d32=>
Cd ag fun s33=>
H0 (De 1 a (Aa (0))) fun h d34=>
H0 (Ek (Cy (Ad (Ad (Ad (Ad ((89,some ⟨[AV.sc (.string ⟨#[]⟩),Aa (0),Aa (0),AV.sc (.string ⟨#[]⟩)],30⟩)::(Ad (Ad (Ad (Ad (Ad (Ad (Ad ((0,some ⟨[AV.sc (.string ⟨#[]⟩),Aa (0),Aa (0),AV.sc (.string ⟨#[]⟩)],30⟩)::[]) d9) d10) d12) d13) d15) d16) d18)) d30) d31) d32) d34) (A3 h++([]))) h) fun ah d35=>
Cd ah fun s36=>
H0 (De 1 a (Aa (1))) fun i d37=>
H0 (Ek (Cy (Ad (Ad (Ad (Ad (Ad (Ad ((89,some ⟨[AV.sc (.string ⟨#[]⟩),Aa (0),Aa (0),AV.sc (.string ⟨#[]⟩)],30⟩)::(Ad (Ad (Ad (Ad (Ad (Ad (Ad ((0,some ⟨[AV.sc (.string ⟨#[]⟩),Aa (0),Aa (0),AV.sc (.string ⟨#[]⟩)],30⟩)::[]) d9) d10) d12) d13) d15) d16) d18)) d30) d31) d32) d34) d35) d37) (A3 i++([]))) i) fun ai d38=>
Cd ai fun s39=>
Uy pg KK.gl (Ad (Ad (Ad (Ad (Ad (Ad (Ad ((89,some ⟨[AV.sc (.string ⟨#[]⟩),Aa (0),Aa (0),AV.sc (.string ⟨#[]⟩)],30⟩)::(Ad (Ad (Ad (Ad (Ad (Ad (Ad ((0,some ⟨[AV.sc (.string ⟨#[]⟩),Aa (0),Aa (0),AV.sc (.string ⟨#[]⟩)],30⟩)::[]) d9) d10) d12) d13) d15) d16) d18)) d30) d31) d32) d34) d35) d37) d38) 103 49 [AV.sc (.string s33),AV.sc (.string s36),AV.sc (.string s39)] fun aj d40 ft40=>
E7 aj fun c41 c42=>
Hz c41 fun c43 c44 c45 c46=>
Cd c43 fun s47=>
Ag c44 fun j=>
Ag c45 fun k=>
Cd c46 fun s50=>
Ha c42 fun ak=>
B4 pg (Cy (Ad (Ad (Ad (Ad (Ad (Ad (Ad (Ad ((89,some ⟨[AV.sc (.string ⟨#[]⟩),Aa (0),Aa (0),AV.sc (.string ⟨#[]⟩)],30⟩)::(Ad (Ad (Ad (Ad (Ad (Ad (Ad ((0,some ⟨[AV.sc (.string ⟨#[]⟩),Aa (0),Aa (0),AV.sc (.string ⟨#[]⟩)],30⟩)::[]) d9) d10) d12) d13) d15) d16) d18)) d30) d31) d32) d34) d35) d37) d38) d40) (A3 (AV.ptr 89 0)++(A3 (AV.agg [AV.sc (.string s47),Aa j,Aa k,AV.sc (.string s50)])++([])))) 30 (AV.ptr 89 0) (AV.agg [AV.sc (.string s47),Aa j,Aa k,AV.sc (.string s50)]) fun bp d52=>
Ic (E3 [0,1,3,0,8,24,0,64,192,511,1023,2047,2047,4095,16383] [⟨[],[]⟩,⟨d31,[]⟩,⟨d32,A3 g++([])⟩,⟨[],[]⟩,⟨d34,[]⟩,⟨d35,A3 h++([])⟩,⟨[],[]⟩,⟨d37,[]⟩,⟨d38,A3 i++([])⟩,⟨d40,ft40⟩,⟨[],[]⟩,⟨[],[]⟩,⟨[],[]⟩,⟨d52,A3 (AV.ptr 89 0)++(A3 (AV.agg [AV.sc (.string s47),Aa j,Aa k,AV.sc (.string s50)])++([]))⟩,⟨[],[]⟩]) (bif (!ak) then (
A4 (Mb [AV.sc (.string ⟨#[]⟩),Aa (0),Aa (0),AV.sc (.string ⟨#[]⟩)] [(0,1),(1,1),(2,1),(3,1)] []) fun al=>
B4 pg (Al (Ad (Ad (Ad (Ad (Ad (Ad (Ad (Ad (Ad ((89,some ⟨[AV.sc (.string ⟨#[]⟩),Aa (0),Aa (0),AV.sc (.string ⟨#[]⟩)],30⟩)::(Ad (Ad (Ad (Ad (Ad (Ad (Ad ((0,some ⟨[AV.sc (.string ⟨#[]⟩),Aa (0),Aa (0),AV.sc (.string ⟨#[]⟩)],30⟩)::[]) d9) d10) d12) d13) d15) d16) d18)) d30) d31) d32) d34) d35) d37) d38) d40) d52)) 30 (AV.ptr 0 0) al fun bq d54=>
As R (Ad (Ad (Ad (Ad (Ad (Ad (Ad (Ad (Ad (Ad ((89,some ⟨[AV.sc (.string ⟨#[]⟩),Aa (0),Aa (0),AV.sc (.string ⟨#[]⟩)],30⟩)::(Ad (Ad (Ad (Ad (Ad (Ad (Ad ((0,some ⟨[AV.sc (.string ⟨#[]⟩),Aa (0),Aa (0),AV.sc (.string ⟨#[]⟩)],30⟩)::[]) d9) d10) d12) d13) d15) d16) d18)) d30) d31) d32) d34) d35) d37) d38) d40) d52) d54) [(D7 pg (Al (Ad (Ad (Ad (Ad (Ad (Ad (Ad (Ad (Ad (Ad ((89,some ⟨[AV.sc (.string ⟨#[]⟩),Aa (0),Aa (0),AV.sc (.string ⟨#[]⟩)],30⟩)::(Ad (Ad (Ad (Ad (Ad (Ad (Ad ((0,some ⟨[AV.sc (.string ⟨#[]⟩),Aa (0),Aa (0),AV.sc (.string ⟨#[]⟩)],30⟩)::[]) d9) d10) d12) d13) d15) d16) d18)) d30) d31) d32) d34) d35) d37) d38) d40) d52) d54)) 30 (AV.ptr 0 0)).map (·.1),some (Ai false),some (Aa (5))]) else (
A4 (Hj (Al (Ad (Ad (Ad (Ad (Ad (Ad (Ad (Ad (Ad ((89,some ⟨[AV.sc (.string ⟨#[]⟩),Aa (0),Aa (0),AV.sc (.string ⟨#[]⟩)],30⟩)::(Ad (Ad (Ad (Ad (Ad (Ad (Ad ((0,some ⟨[AV.sc (.string ⟨#[]⟩),Aa (0),Aa (0),AV.sc (.string ⟨#[]⟩)],30⟩)::[]) d9) d10) d12) d13) d15) d16) d18)) d30) d31) d32) d34) d35) d37) d38) d40) d52)) 4 (AV.ptr 89 0)) fun am=>
Hz am fun c56 p9 c58 c59=>
Cd c56 fun s60=>
Ag p9 fun an=>
Ag c58 fun ao=>
Cd c59 fun s63=>
A2 pg KK.gl (Ad (Ad (Ad (Ad (Ad (Ad (Ad (Ad (Ad ((89,some ⟨[AV.sc (.string ⟨#[]⟩),Aa (0),Aa (0),AV.sc (.string ⟨#[]⟩)],30⟩)::(Ad (Ad (Ad (Ad (Ad (Ad (Ad ((0,some ⟨[AV.sc (.string ⟨#[]⟩),Aa (0),Aa (0),AV.sc (.string ⟨#[]⟩)],30⟩)::[]) d9) d10) d12) d13) d15) d16) d18)) d30) d31) d32) d34) d35) d37) d38) d40) d52) 46 [AV.agg [AV.sc (.string s60),Aa an,Aa ao,AV.sc (.string s63)]] fun ap=>
Ag ap fun n=>
bif (n !=(0)) then (
A4 (Mb [AV.sc (.string ⟨#[]⟩),Aa (0),Aa (0),AV.sc (.string ⟨#[]⟩)] [(0,1),(1,1),(2,1),(3,1)] []) fun aq=>
B4 pg (Al (Ad (Ad (Ad (Ad (Ad (Ad (Ad (Ad (Ad ((89,some ⟨[AV.sc (.string ⟨#[]⟩),Aa (0),Aa (0),AV.sc (.string ⟨#[]⟩)],30⟩)::(Ad (Ad (Ad (Ad (Ad (Ad (Ad ((0,some ⟨[AV.sc (.string ⟨#[]⟩),Aa (0),Aa (0),AV.sc (.string ⟨#[]⟩)],30⟩)::[]) d9) d10) d12) d13) d15) d16) d18)) d30) d31) d32) d34) d35) d37) d38) d40) d52)) 30 (AV.ptr 0 0) aq fun br d67=>
As R (Ad (Ad (Ad (Ad (Ad (Ad (Ad (Ad (Ad (Ad ((89,some ⟨[AV.sc (.string ⟨#[]⟩),Aa (0),Aa (0),AV.sc (.string ⟨#[]⟩)],30⟩)::(Ad (Ad (Ad (Ad (Ad (Ad (Ad ((0,some ⟨[AV.sc (.string ⟨#[]⟩),Aa (0),Aa (0),AV.sc (.string ⟨#[]⟩)],30⟩)::[]) d9) d10) d12) d13) d15) d16) d18)) d30) d31) d32) d34) d35) d37) d38) d40) d52) d67) [(D7 pg (Al (Ad (Ad (Ad (Ad (Ad (Ad (Ad (Ad (Ad (Ad ((89,some ⟨[AV.sc (.string ⟨#[]⟩),Aa (0),Aa (0),AV.sc (.string ⟨#[]⟩)],30⟩)::(Ad (Ad (Ad (Ad (Ad (Ad (Ad ((0,some ⟨[AV.sc (.string ⟨#[]⟩),Aa (0),Aa (0),AV.sc (.string ⟨#[]⟩)],30⟩)::[]) d9) d10) d12) d13) d15) d16) d18)) d30) d31) d32) d34) d35) d37) d38) d40) d52) d67)) 30 (AV.ptr 0 0)).map (·.1),some (Ai false),some (Aa n)]) else (
A4 (Hj (Al (Ad (Ad (Ad (Ad (Ad (Ad (Ad (Ad (Ad ((89,some ⟨[AV.sc (.string ⟨#[]⟩),Aa (0),Aa (0),AV.sc (.string ⟨#[]⟩)],30⟩)::(Ad (Ad (Ad (Ad (Ad (Ad (Ad ((0,some ⟨[AV.sc (.string ⟨#[]⟩),Aa (0),Aa (0),AV.sc (.string ⟨#[]⟩)],30⟩)::[]) d9) d10) d12) d13) d15) d16) d18)) d30) d31) d32) d34) d35) d37) d38) d40) d52)) 4 (AV.ptr 89 0)) fun ar=>
Hz ar fun c69 c70 au av=>
Cd c69 fun s73=>
Ag c70 fun aw=>
Ag au fun ax=>
Cd av fun s76=>
B4 pg (Al (Ad (Ad (Ad (Ad (Ad (Ad (Ad (Ad (Ad ((89,some ⟨[AV.sc (.string ⟨#[]⟩),Aa (0),Aa (0),AV.sc (.string ⟨#[]⟩)],30⟩)::(Ad (Ad (Ad (Ad (Ad (Ad (Ad ((0,some ⟨[AV.sc (.string ⟨#[]⟩),Aa (0),Aa (0),AV.sc (.string ⟨#[]⟩)],30⟩)::[]) d9) d10) d12) d13) d15) d16) d18)) d30) d31) d32) d34) d35) d37) d38) d40) d52)) 30 (AV.ptr 0 0) (AV.agg [AV.sc (.string s73),Aa aw,Aa ax,AV.sc (.string s76)]) fun bs d77=>
As R (Ad (Ad (Ad (Ad (Ad (Ad (Ad (Ad (Ad (Ad ((89,some ⟨[AV.sc (.string ⟨#[]⟩),Aa (0),Aa (0),AV.sc (.string ⟨#[]⟩)],30⟩)::(Ad (Ad (Ad (Ad (Ad (Ad (Ad ((0,some ⟨[AV.sc (.string ⟨#[]⟩),Aa (0),Aa (0),AV.sc (.string ⟨#[]⟩)],30⟩)::[]) d9) d10) d12) d13) d15) d16) d18)) d30) d31) d32) d34) d35) d37) d38) d40) d52) d77) [(D7 pg (Al (Ad (Ad (Ad (Ad (Ad (Ad (Ad (Ad (Ad (Ad ((89,some ⟨[AV.sc (.string ⟨#[]⟩),Aa (0),Aa (0),AV.sc (.string ⟨#[]⟩)],30⟩)::(Ad (Ad (Ad (Ad (Ad (Ad (Ad ((0,some ⟨[AV.sc (.string ⟨#[]⟩),Aa (0),Aa (0),AV.sc (.string ⟨#[]⟩)],30⟩)::[]) d9) d10) d12) d13) d15) d16) d18)) d30) d31) d32) d34) d35) d37) d38) d40) d52) d77)) 30 (AV.ptr 0 0)).map (·.1),some (Ai true),some (Aa (0))])))) else (
bif (!m) then (
A4 (Mb [AV.sc (.string ⟨#[]⟩),Aa (0),Aa (0),AV.sc (.string ⟨#[]⟩)] [(0,1),(1,1),(2,1),(3,1)] []) fun ay=>
B4 pg (Al (Ad ((89,some ⟨[AV.sc (.string ⟨#[]⟩),Aa (0),Aa (0),AV.sc (.string ⟨#[]⟩)],30⟩)::(Ad (Ad (Ad (Ad (Ad (Ad (Ad ((0,some ⟨[AV.sc (.string ⟨#[]⟩),Aa (0),Aa (0),AV.sc (.string ⟨#[]⟩)],30⟩)::[]) d9) d10) d12) d13) d15) d16) d18)) d30)) 30 (AV.ptr 0 0) ay fun bt d79=>
As R (Ad (Ad ((89,some ⟨[AV.sc (.string ⟨#[]⟩),Aa (0),Aa (0),AV.sc (.string ⟨#[]⟩)],30⟩)::(Ad (Ad (Ad (Ad (Ad (Ad (Ad ((0,some ⟨[AV.sc (.string ⟨#[]⟩),Aa (0),Aa (0),AV.sc (.string ⟨#[]⟩)],30⟩)::[]) d9) d10) d12) d13) d15) d16) d18)) d30) d79) [(D7 pg (Al (Ad (Ad ((89,some ⟨[AV.sc (.string ⟨#[]⟩),Aa (0),Aa (0),AV.sc (.string ⟨#[]⟩)],30⟩)::(Ad (Ad (Ad (Ad (Ad (Ad (Ad ((0,some ⟨[AV.sc (.string ⟨#[]⟩),Aa (0),Aa (0),AV.sc (.string ⟨#[]⟩)],30⟩)::[]) d9) d10) d12) d13) d15) d16) d18)) d30) d79)) 30 (AV.ptr 0 0)).map (·.1),some (Ai false),some (Aa (5))]) else (
A4 (Hj (Al (Ad ((89,some ⟨[AV.sc (.string ⟨#[]⟩),Aa (0),Aa (0),AV.sc (.string ⟨#[]⟩)],30⟩)::(Ad (Ad (Ad (Ad (Ad (Ad (Ad ((0,some ⟨[AV.sc (.string ⟨#[]⟩),Aa (0),Aa (0),AV.sc (.string ⟨#[]⟩)],30⟩)::[]) d9) d10) d12) d13) d15) d16) d18)) d30)) 4 (AV.ptr 89 0)) fun az=>
Hz az fun ba bb bc bd=>
Cd ba fun s85=>
Ag bb fun be=>
Ag bc fun bf=>
Cd bd fun s88=>
A2 pg KK.gl (Ad ((89,some ⟨[AV.sc (.string ⟨#[]⟩),Aa (0),Aa (0),AV.sc (.string ⟨#[]⟩)],30⟩)::(Ad (Ad (Ad (Ad (Ad (Ad (Ad ((0,some ⟨[AV.sc (.string ⟨#[]⟩),Aa (0),Aa (0),AV.sc (.string ⟨#[]⟩)],30⟩)::[]) d9) d10) d12) d13) d15) d16) d18)) d30) 46 [AV.agg [AV.sc (.string s85),Aa be,Aa bf,AV.sc (.string s88)]] fun bg=>
Ag bg fun o=>
bif (o !=(0)) then (
A4 (Mb [AV.sc (.string ⟨#[]⟩),Aa (0),Aa (0),AV.sc (.string ⟨#[]⟩)] [(0,1),(1,1),(2,1),(3,1)] []) fun bh=>
B4 pg (Al (Ad ((89,some ⟨[AV.sc (.string ⟨#[]⟩),Aa (0),Aa (0),AV.sc (.string ⟨#[]⟩)],30⟩)::(Ad (Ad (Ad (Ad (Ad (Ad (Ad ((0,some ⟨[AV.sc (.string ⟨#[]⟩),Aa (0),Aa (0),AV.sc (.string ⟨#[]⟩)],30⟩)::[]) d9) d10) d12) d13) d15) d16) d18)) d30)) 30 (AV.ptr 0 0) bh fun bu d92=>
As R (Ad (Ad ((89,some ⟨[AV.sc (.string ⟨#[]⟩),Aa (0),Aa (0),AV.sc (.string ⟨#[]⟩)],30⟩)::(Ad (Ad (Ad (Ad (Ad (Ad (Ad ((0,some ⟨[AV.sc (.string ⟨#[]⟩),Aa (0),Aa (0),AV.sc (.string ⟨#[]⟩)],30⟩)::[]) d9) d10) d12) d13) d15) d16) d18)) d30) d92) [(D7 pg (Al (Ad (Ad ((89,some ⟨[AV.sc (.string ⟨#[]⟩),Aa (0),Aa (0),AV.sc (.string ⟨#[]⟩)],30⟩)::(Ad (Ad (Ad (Ad (Ad (Ad (Ad ((0,some ⟨[AV.sc (.string ⟨#[]⟩),Aa (0),Aa (0),AV.sc (.string ⟨#[]⟩)],30⟩)::[]) d9) d10) d12) d13) d15) d16) d18)) d30) d92)) 30 (AV.ptr 0 0)).map (·.1),some (Ai false),some (Aa o)]) else (
A4 (Hj (Al (Ad ((89,some ⟨[AV.sc (.string ⟨#[]⟩),Aa (0),Aa (0),AV.sc (.string ⟨#[]⟩)],30⟩)::(Ad (Ad (Ad (Ad (Ad (Ad (Ad ((0,some ⟨[AV.sc (.string ⟨#[]⟩),Aa (0),Aa (0),AV.sc (.string ⟨#[]⟩)],30⟩)::[]) d9) d10) d12) d13) d15) d16) d18)) d30)) 4 (AV.ptr 89 0)) fun bi=>
Hz bi fun bj bk c96 bl=>
Cd bj fun s98=>
Ag bk fun bm=>
Ag c96 fun bn=>
Cd bl fun s101=>
B4 pg (Al (Ad ((89,some ⟨[AV.sc (.string ⟨#[]⟩),Aa (0),Aa (0),AV.sc (.string ⟨#[]⟩)],30⟩)::(Ad (Ad (Ad (Ad (Ad (Ad (Ad ((0,some ⟨[AV.sc (.string ⟨#[]⟩),Aa (0),Aa (0),AV.sc (.string ⟨#[]⟩)],30⟩)::[]) d9) d10) d12) d13) d15) d16) d18)) d30)) 30 (AV.ptr 0 0) (AV.agg [AV.sc (.string s98),Aa bm,Aa bn,AV.sc (.string s101)]) fun bv d102=>
As R (Ad (Ad ((89,some ⟨[AV.sc (.string ⟨#[]⟩),Aa (0),Aa (0),AV.sc (.string ⟨#[]⟩)],30⟩)::(Ad (Ad (Ad (Ad (Ad (Ad (Ad ((0,some ⟨[AV.sc (.string ⟨#[]⟩),Aa (0),Aa (0),AV.sc (.string ⟨#[]⟩)],30⟩)::[]) d9) d10) d12) d13) d15) d16) d18)) d30) d102) [(D7 pg (Al (Ad (Ad ((89,some ⟨[AV.sc (.string ⟨#[]⟩),Aa (0),Aa (0),AV.sc (.string ⟨#[]⟩)],30⟩)::(Ad (Ad (Ad (Ad (Ad (Ad (Ad ((0,some ⟨[AV.sc (.string ⟨#[]⟩),Aa (0),Aa (0),AV.sc (.string ⟨#[]⟩)],30⟩)::[]) d9) d10) d12) d13) d15) d16) d18)) d30) d102)) 30 (AV.ptr 0 0)).map (·.1),some (Ai false),some (Aa (0))]))))))
noncomputable def c127:Code:=((Tryz.f127).body).getD .skip
noncomputable def Au0 (R:AV→Mem→Prop):A1→St→Prop:=Cm pg Tryz.f127 R
noncomputable def Apc (a:AV) (b:Int) (R:AV→Mem→Prop):Prop:=
bif (decide (b<(0))) then (
As R [] [some (Ai true)]) else (
bif (decide (b>(200000))) then (
As R [] [some (Ai true)]) else (
A4 (Da a) fun c=>
Ag c fun d=>
bif (decide (d>(0))) then (
A4 (Da a) fun e=>
Ag e fun f=>
A4 (De 5 a (Aa (IntKind.wrap .i64 (f-(1))))) fun g=>
A4 (Eo 4 g) fun h=>
A4 (Ek (Al []) h) fun i=>
Ag i fun j=>
As R [] [some (Ai (decide (b<j)))]) else (
As R [] [some (Ai false)])))
noncomputable def Aur:Code:=((Tryz.f129).body).getD .skip
noncomputable def Auf (R:AV→Mem→Prop):A1→St→Prop:=Cm pg Tryz.f129 R
noncomputable def Aph (a:ByteArray) (b c:Int) (d:ByteArray) (e:Int) (f:AV) (R:AV→Mem→Prop):Prop:=
A4 (Eo 0 f) fun g=>
A4 (Ek (Al ((0,some ⟨[AV.sc (.string a),Aa b,Aa c,AV.sc (.string d),Aa e],159⟩)::[])) g) fun h=>
Cd h fun s2=>
bif ((a).toList==(s2).toList) then (
A4 (Eo 1 f) fun i=>
A4 (Ek (Al ((0,some ⟨[AV.sc (.string a),Aa b,Aa c,AV.sc (.string d),Aa e],159⟩)::[])) i) fun j=>
Ag j fun k=>
As R ((0,some ⟨[AV.sc (.string a),Aa b,Aa c,AV.sc (.string d),Aa e],159⟩)::[]) [some (Ai (b==k))]) else (
As R ((0,some ⟨[AV.sc (.string a),Aa b,Aa c,AV.sc (.string d),Aa e],159⟩)::[]) [some (Ai false)])
noncomputable def Ap7:Code:=((Tryz.f128).body).getD .skip
noncomputable def Asq (R:AV→Mem→Prop):A1→St→Prop:=Cm pg Tryz.f128 R
noncomputable def M3:Code:=Dy Ap7 0
noncomputable def wE (R:AV→Mem→Prop):A1→St→Prop:=Dz pg KK 19 0 Ap7 0 (Asq R)
noncomputable def Aqr (R:AV→Mem→Prop) (N0:St→Prop):A1→St→Prop:=Dw N0 (wE R)
def Ak7 (a b:AV) (c d e:Int) (m:Mem):St:=⟨[(0,a),(1,b),(4,(Aa c)),(7,(Aa d)),(8,(Aa e))],m,100000⟩
noncomputable def qU (b c:AV) (k d a:Int) (m:Mem) (R:AV→Mem→Prop) (N0:St→Prop):Prop:=
bif (decide (a<d)) then (
A4 (De 5 b (Aa a)) fun f=>
A4 (Hj (Al m) 5 f) fun o=>
Aiv o fun p c5 c6 c7 c8=>
Cd p fun s9=>
Ag c5 fun g=>
Ag c6 fun h=>
Cd c7 fun s12=>
Ag c8 fun i=>
H7 (some c) (some [AV.agg [AV.sc (.string s9),Aa g,Aa h,AV.sc (.string s12),Aa i]]) fun f14 l=>bif KK.pm f14 then A2 pg KK.gl m f14 l (fun j=>
Ha j fun e=>
bif e then (
As R m [some (Aa a)]) else (
N0 ⟨[(0,b),(1,c),(4,(Aa k)),(7,(Aa d)),(8,(Aa (IntKind.wrap .i64 (a+(1))))),(9,(Ai (decide (a<d)))),(10,(Aa a)),(5,(Aa a)),(11,c),(12,b),(13,(Aa a)),(14,f),(15,(AV.agg [AV.sc (.string s9),Aa g,Aa h,AV.sc (.string s12),Aa i])),(16,(Ai e)),(18,(Aa (IntKind.wrap .i64 (a+(1)))))],m,100074⟩)) else C1 pg KK.gl m 100008 f14 l fun j n=>
Ha j fun e=>
bif e then (
As R n [some (Aa a)]) else (
N0 ⟨[(0,b),(1,c),(4,(Aa k)),(7,(Aa d)),(8,(Aa (IntKind.wrap .i64 (a+(1))))),(9,(Ai (decide (a<d)))),(10,(Aa a)),(5,(Aa a)),(11,c),(12,b),(13,(Aa a)),(14,f),(15,(AV.agg [AV.sc (.string s9),Aa g,Aa h,AV.sc (.string s12),Aa i])),(16,(Ai e)),(18,(Aa (IntKind.wrap .i64 (a+(1)))))],n,100074⟩)) else (
As R m [some (Aa (-1))])
noncomputable def Amx (a b:AV) (R:AV→Mem→Prop):Prop:=
A4 (Da a) fun c=>
Ag c fun d=>
Ff pg KK 19 0 (.loop M3) ⟨[(0,a),(1,b),(4,(Aa (0))),(6,a),(7,(Aa d)),(8,(Aa (0)))],[],4⟩ (wE R)
noncomputable def c52:Code:=((Tryz.f52).body).getD .skip
noncomputable def q52 (R:AV→Mem→Prop):A1→St→Prop:=Cm pg Tryz.f52 R
noncomputable def F52 (e:AV) (a:ByteArray) (b c:Int) (d:ByteArray) (R:AV→Mem→Prop):Prop:=
A2 pg KK.gl ((0,some ⟨[AV.sc (.string a),Aa b,Aa c,AV.sc (.string d)],30⟩)::[]) 128 [e,AV.fn 129 [AV.ptr 0 0]] fun f=>
Ag f fun g=>
As R ((0,some ⟨[AV.sc (.string a),Aa b,Aa c,AV.sc (.string d)],30⟩)::[]) [some (Aa g)]
noncomputable def Ao8:Code:=((Tryz.f126).body).getD .skip
noncomputable def Aq3 (R:AV→Mem→Prop):A1→St→Prop:=Cm pg Tryz.f126 R
noncomputable def Ait:Code:=Dy Ao8 0
noncomputable def yE (R:AV→Mem→Prop):A1→St→Prop:=Dz pg KK 38 0 Ao8 0 (Aq3 R)
noncomputable def Aqn (R:AV→Mem→Prop) (N0:St→Prop):A1→St→Prop:=Dw N0 (yE R)
def Aiz (a:AV) (b:Int) (c:AV) (d e:Int) (m:Mem):St:=⟨[(0,a),(2,(Aa b)),(9,c),(10,(Aa d)),(11,(Aa e))],m,100000⟩
noncomputable def Aa1 (f:AV) (o:Int) (j:AV) (h d:Int) (m:Mem) (R:AV→Mem→Prop) (N0:St→Prop):Prop:=
bif (decide (d<h)) then (
A4 (De 5 j (Aa d)) fun k=>
A4 (Hj (Al m) 5 k) fun p=>
Aiv p fun c6 c7 c8 c9 O2=>
Cd c6 fun s11=>
Ag c7 fun a=>
Ag c8 fun b=>
Cd c9 fun s14=>
Ag O2 fun c=>
A2 pg KK.gl ((100004,some ⟨[AV.sc (.string s11),Aa a,Aa b,AV.sc (.string s14),Aa c],159⟩)::(100004,some ⟨[AV.sc (.string ⟨#[]⟩),Aa (0),Aa (0),AV.sc (.string ⟨#[]⟩),Aa (0)],159⟩)::m) 46 [AV.agg [AV.sc (.string s11),Aa a,Aa b,AV.sc (.string s14)]] fun q=>
Ag q fun e=>
bif (e !=(0)) then (
As R ((100004,some ⟨[AV.sc (.string s11),Aa a,Aa b,AV.sc (.string s14),Aa c],159⟩)::(100004,some ⟨[AV.sc (.string ⟨#[]⟩),Aa (0),Aa (0),AV.sc (.string ⟨#[]⟩),Aa (0)],159⟩)::m) [some (Aa e)]) else (
A4 (Ce pg (.slice 40 (.tmp 0) none (some (.tmp 1)) none) 40 [f,Aa d] (Al ((100004,some ⟨[AV.sc (.string s11),Aa a,Aa b,AV.sc (.string s14),Aa c],159⟩)::(100004,some ⟨[AV.sc (.string ⟨#[]⟩),Aa (0),Aa (0),AV.sc (.string ⟨#[]⟩),Aa (0)],159⟩)::m)) 100078) fun l=>
A2 pg KK.gl ((100004,some ⟨[AV.sc (.string s11),Aa a,Aa b,AV.sc (.string s14),Aa c],159⟩)::(100004,some ⟨[AV.sc (.string ⟨#[]⟩),Aa (0),Aa (0),AV.sc (.string ⟨#[]⟩),Aa (0)],159⟩)::m) 127 [l,Aa c] fun r=>
Ha r fun i=>
bif i then (
As R ((100004,some ⟨[AV.sc (.string s11),Aa a,Aa b,AV.sc (.string s14),Aa c],159⟩)::(100004,some ⟨[AV.sc (.string ⟨#[]⟩),Aa (0),Aa (0),AV.sc (.string ⟨#[]⟩),Aa (0)],159⟩)::m) [some (Aa (12))]) else (
A4 (Ce pg (.slice 40 (.tmp 0) none (some (.tmp 1)) none) 40 [f,Aa d] (Al ((100004,some ⟨[AV.sc (.string s11),Aa a,Aa b,AV.sc (.string s14),Aa c],159⟩)::(100004,some ⟨[AV.sc (.string ⟨#[]⟩),Aa (0),Aa (0),AV.sc (.string ⟨#[]⟩),Aa (0)],159⟩)::m)) 100085) fun n=>
A2 pg KK.gl ((100004,some ⟨[AV.sc (.string s11),Aa a,Aa b,AV.sc (.string s14),Aa c],159⟩)::(100004,some ⟨[AV.sc (.string ⟨#[]⟩),Aa (0),Aa (0),AV.sc (.string ⟨#[]⟩),Aa (0)],159⟩)::m) 52 [n,AV.agg [AV.sc (.string s11),Aa a,Aa b,AV.sc (.string s14)]] fun s=>
Ag s fun g=>
bif (decide (g≥(0))) then (
As R ((100004,some ⟨[AV.sc (.string s11),Aa a,Aa b,AV.sc (.string s14),Aa c],159⟩)::(100004,some ⟨[AV.sc (.string ⟨#[]⟩),Aa (0),Aa (0),AV.sc (.string ⟨#[]⟩),Aa (0)],159⟩)::m) [some (Aa (7))]) else (
N0 ⟨[(0,f),(2,(Aa o)),(9,j),(10,(Aa h)),(11,(Aa (IntKind.wrap .i64 (d+(1))))),(12,(Ai (decide (d<h)))),(13,(Aa d)),(14,k),(15,(AV.agg [AV.sc (.string s11),Aa a,Aa b,AV.sc (.string s14),Aa c])),(4,(AV.ptr 100004 0)),(3,(Aa d)),(16,(AV.ptr 100004 0)),(17,(AV.agg [AV.sc (.string s11),Aa a,Aa b,AV.sc (.string s14)])),(18,(Aa e)),(5,(Aa e)),(19,(Aa e)),(20,(Ai (e !=(0)))),(23,f),(24,(Aa d)),(25,l),(26,(AV.ptr 100004 4)),(27,(Aa c)),(28,(Ai i)),(22,(Ai i)),(30,f),(31,(Aa d)),(32,n),(33,(AV.ptr 100004 0)),(34,(AV.agg [AV.sc (.string s11),Aa a,Aa b,AV.sc (.string s14)])),(35,(Aa g)),(36,(Ai (decide (g≥(0))))),(29,(Ai (decide (g≥(0))))),(37,(Aa (IntKind.wrap .i64 (d+(1)))))],((100004,some ⟨[AV.sc (.string s11),Aa a,Aa b,AV.sc (.string s14),Aa c],159⟩)::(100004,some ⟨[AV.sc (.string ⟨#[]⟩),Aa (0),Aa (0),AV.sc (.string ⟨#[]⟩),Aa (0)],159⟩)::m),100093⟩)))) else (
As R m [some (Aa (0))])
noncomputable def Al6 (a:AV) (R:AV→Mem→Prop):Prop:=
A4 (Da a) fun c=>
Ag c fun b=>
bif (decide (b>(12))) then (
As R [] [some (Aa (2))]) else (
A4 (Da a) fun d=>
Ag d fun e=>
Ff pg KK 38 0 (.loop Ait) ⟨[(0,a),(2,(Aa (0))),(6,a),(7,(Aa b)),(8,(Ai (decide (b>(12))))),(9,a),(10,(Aa e)),(11,(Aa (0)))],[],7⟩ (yE R))
noncomputable def lQ:Code:=((Tryz.f50).body).getD .skip
noncomputable def q50 (R:AV→Mem→Prop):A1→St→Prop:=Cm pg Tryz.f50 R
noncomputable def F50 (e:AV) (a:ByteArray) (b c:Int) (d:ByteArray) (h:Int) (R:AV→Mem→Prop):Prop:=
A2 pg KK.gl ((0,some ⟨[AV.sc (.string a),Aa b,Aa c,AV.sc (.string d)],30⟩)::[]) 126 [e] fun i=>
Ag i fun f=>
bif (f !=(0)) then (
As R ((0,some ⟨[AV.sc (.string a),Aa b,Aa c,AV.sc (.string d)],30⟩)::[]) [some (Aa f)]) else (
A2 pg KK.gl ((0,some ⟨[AV.sc (.string a),Aa b,Aa c,AV.sc (.string d)],30⟩)::[]) 46 [AV.agg [AV.sc (.string a),Aa b,Aa c,AV.sc (.string d)]] fun j=>
Ag j fun g=>
bif (g !=(0)) then (
As R ((0,some ⟨[AV.sc (.string a),Aa b,Aa c,AV.sc (.string d)],30⟩)::[]) [some (Aa g)]) else (
A2 pg KK.gl ((0,some ⟨[AV.sc (.string a),Aa b,Aa c,AV.sc (.string d)],30⟩)::[]) 127 [e,Aa h] fun k=>
Ha k fun l=>
bif l then (
As R ((0,some ⟨[AV.sc (.string a),Aa b,Aa c,AV.sc (.string d)],30⟩)::[]) [some (Aa (12))]) else (
As R ((0,some ⟨[AV.sc (.string a),Aa b,Aa c,AV.sc (.string d)],30⟩)::[]) [some (Aa (0))])))
noncomputable def c9:Code:=((Tryz.f9).body).getD .skip
noncomputable def q9 (R:AV→Mem→Prop):A1→St→Prop:=Cm pg Tryz.f9 R
noncomputable def F9 (j:AV) (b:ByteArray) (c d:Int) (e:ByteArray) (g:Int) (R:AV→Mem→Prop):Prop:=
A2 pg KK.gl ((0,some ⟨[AV.sc (.string b),Aa c,Aa d,AV.sc (.string e)],30⟩)::[]) 50 [j,AV.agg [AV.sc (.string b),Aa c,Aa d,AV.sc (.string e)],Aa g] fun o=>
Ag o fun k=>
bif (k !=(0)) then (
As R ((0,some ⟨[AV.sc (.string b),Aa c,Aa d,AV.sc (.string e)],30⟩)::[]) [some AV.Bg,some (Aa k)]) else (
C1 pg KK.gl ((0,some ⟨[AV.sc (.string b),Aa c,Aa d,AV.sc (.string e)],30⟩)::[]) 74 51 [j] fun f a=>
A4 (Hj (Al a) 4 (AV.ptr 0 0)) fun p=>
Hz p fun q c5 c6 c7=>
Cd q fun s8=>
Ag c5 fun r=>
Ag c6 fun s=>
Cd c7 fun s11=>
A2 pg KK.gl a 52 [f,AV.agg [AV.sc (.string s8),Aa r,Aa s,AV.sc (.string s11)]] fun t=>
Ag t fun h=>
bif (decide (h≥(0))) then (
C1 pg KK.gl a 212 53 [f,Aa h,Aa (IntKind.wrap .i64 (h+(1)))] fun l i=>
A4 (Da l) fun u=>
Ag u fun v=>
bif (v==(12)) then (
As R i [some AV.Bg,some (Aa (9))]) else (
A4 (Hj (Al i) 4 (AV.ptr 0 0)) fun w=>
Hz w fun kH x y z=>
Cd kH fun s22=>
Ag x fun aa=>
Ag y fun ab=>
Cd z fun s25=>
A4 (Mb [AV.sc (.string ⟨#[]⟩),Aa (0),Aa (0),AV.sc (.string ⟨#[]⟩),Aa (0)] [(0,4),(4,1)] [(0,(AV.agg [AV.sc (.string s22),Aa aa,Aa ab,AV.sc (.string s25)])),(1,(Aa g))]) fun ad=>
Hi (Th 284 159 5 1 [AV.sc (.string ⟨#[]⟩),Aa (0),Aa (0),AV.sc (.string ⟨#[]⟩),Aa (0)] [(0,ad)]) i fun ae m=>
Hi (app (Al m) 159 5 56 [AV.sc (.string ⟨#[]⟩),Aa (0),Aa (0),AV.sc (.string ⟨#[]⟩),Aa (0)] 285 l ae) m fun af ag=>
As R ag [some af,some (Aa (0))])) else (
A4 (Da f) fun ah=>
Ag ah fun ai=>
bif (ai==(12)) then (
As R a [some AV.Bg,some (Aa (9))]) else (
A4 (Hj (Al a) 4 (AV.ptr 0 0)) fun aj=>
Hz aj fun ak al am an=>
Cd ak fun s36=>
Ag al fun ao=>
Ag am fun ap=>
Cd an fun s39=>
A4 (Mb [AV.sc (.string ⟨#[]⟩),Aa (0),Aa (0),AV.sc (.string ⟨#[]⟩),Aa (0)] [(0,4),(4,1)] [(0,(AV.agg [AV.sc (.string s36),Aa ao,Aa ap,AV.sc (.string s39)])),(1,(Aa g))]) fun aq=>
Hi (Th 215 159 5 1 [AV.sc (.string ⟨#[]⟩),Aa (0),Aa (0),AV.sc (.string ⟨#[]⟩),Aa (0)] [(0,aq)]) a fun ar n=>
Hi (app (Al n) 159 5 56 [AV.sc (.string ⟨#[]⟩),Aa (0),Aa (0),AV.sc (.string ⟨#[]⟩),Aa (0)] 216 f ar) n fun au av=>
As R av [some au,some (Aa (0))])))
noncomputable def O2:Code:=((Tryz.f10).body).getD .skip
noncomputable def q10 (R:AV→Mem→Prop):A1→St→Prop:=Cm pg Tryz.f10 R
noncomputable def F10 (e:AV) (a:ByteArray) (b c:Int) (d:ByteArray) (g:Int) (R:AV→Mem→Prop):Prop:=
A2 pg KK.gl ((0,some ⟨[AV.sc (.string a),Aa b,Aa c,AV.sc (.string d)],30⟩)::[]) 50 [e,AV.agg [AV.sc (.string a),Aa b,Aa c,AV.sc (.string d)],Aa g] fun i=>
Ag i fun h=>
bif (h !=(0)) then (
As R ((0,some ⟨[AV.sc (.string a),Aa b,Aa c,AV.sc (.string d)],30⟩)::[]) [some AV.Bg,some (Aa h)]) else (
A2 pg KK.gl ((0,some ⟨[AV.sc (.string a),Aa b,Aa c,AV.sc (.string d)],30⟩)::[]) 52 [e,AV.agg [AV.sc (.string a),Aa b,Aa c,AV.sc (.string d)]] fun j=>
Ag j fun f=>
bif (decide (f<(0))) then (
As R ((0,some ⟨[AV.sc (.string a),Aa b,Aa c,AV.sc (.string d)],30⟩)::[]) [some AV.Bg,some (Aa (8))]) else (
A4 (De 5 e (Aa f)) fun k=>
A4 (Eo 4 k) fun l=>
A4 (Ek (Al ((0,some ⟨[AV.sc (.string a),Aa b,Aa c,AV.sc (.string d)],30⟩)::[])) l) fun m=>
Ag m fun n=>
bif (decide ((IntKind.wrap .i64 (g-n))>(40))) then (
As R ((0,some ⟨[AV.sc (.string a),Aa b,Aa c,AV.sc (.string d)],30⟩)::[]) [some AV.Bg,some (Aa (21))]) else (
A4 (De 5 e (Aa f)) fun o=>
A4 (Eo 0 o) fun p=>
A4 (Hj (Al ((0,some ⟨[AV.sc (.string a),Aa b,Aa c,AV.sc (.string d)],30⟩)::[])) 4 p) fun q=>
Hz q fun Kj c12 Wm r=>
Cd Kj fun s15=>
Ag c12 fun s=>
Ag Wm fun t=>
Cd r fun s18=>
A4 (Ce pg (.binOp .neq 30 (.tmp 0) (.tmp 1) 30) 4 [AV.agg [AV.sc (.string s15),Aa s,Aa t,AV.sc (.string s18)],AV.agg [AV.sc (.string a),Aa b,Aa c,AV.sc (.string d)]] (Al ((0,some ⟨[AV.sc (.string a),Aa b,Aa c,AV.sc (.string d)],30⟩)::[])) 158) fun u=>
Ha u fun v=>
bif v then (
As R ((0,some ⟨[AV.sc (.string a),Aa b,Aa c,AV.sc (.string d)],30⟩)::[]) [some AV.Bg,some (Aa (17))]) else (
C1 pg KK.gl ((0,some ⟨[AV.sc (.string a),Aa b,Aa c,AV.sc (.string d)],30⟩)::[]) 161 51 [e] fun w x=>
C1 pg KK.gl x 228 53 [w,Aa f,Aa (IntKind.wrap .i64 (f+(1)))] fun y z=>
As R z [some y,some (Aa (0))]))))
noncomputable def c69:Code:=((Tryz.f69).body).getD .skip
noncomputable def q69 (R:AV→Mem→Prop):A1→St→Prop:=Cm pg Tryz.f69 R
noncomputable def Alh:Code:=Dy c69 0
noncomputable def Aft (R:AV→Mem→Prop):A1→St→Prop:=Dz pg KK 18 0 c69 0 (q69 R)
noncomputable def Asw (R:AV→Mem→Prop) (N0:St→Prop):A1→St→Prop:=Dw N0 (Aft R)
def An6 (a b:Int) (c:AV) (d e:Int) (m:Mem):St:=⟨[(2,(Aa a)),(3,(Aa b)),(6,c),(7,(Aa d)),(8,(Aa e))],m,100000⟩
noncomputable def Af3 (g b:Int) (e:AV) (d c:Int) (m:Mem) (R:AV→Mem→Prop) (N0:St→Prop):Prop:=
bif (decide (c<d)) then (
A4 (De 1 e (Aa c)) fun f=>
A4 (Ek (Al m) f) fun h=>
Ag h fun a=>
bif (a !=b) then (
As R m [some (Aa a)]) else (
N0 ⟨[(2,(Aa g)),(3,(Aa b)),(6,e),(7,(Aa d)),(8,(Aa (IntKind.wrap .i64 (c+(1))))),(9,(Ai (decide (c<d)))),(10,f),(11,(Aa a)),(5,(Aa a)),(12,(Aa a)),(13,(Aa b)),(14,(Ai (a !=b))),(16,(Aa (IntKind.wrap .i64 (c+(1)))))],m,100009⟩)) else (
As R m [some (Aa b)])
noncomputable def F69 (a:AV) (R:AV→Mem→Prop):Prop:=
A4 (Da a) fun b=>
Ag b fun c=>
Ff pg KK 18 0 (.loop Alh) ⟨[(0,a),(2,(Aa (0))),(3,(Aa (0))),(6,a),(7,(Aa c)),(8,(Aa (0)))],[],5⟩ (Aft R)
noncomputable def c68:Code:=((Tryz.f68).body).getD .skip
noncomputable def q68 (R:AV→Mem→Prop):A1→St→Prop:=Cm pg Tryz.f68 R
noncomputable def F68 (a b c h d e f i:Int) (R:AV→Mem→Prop):Prop:=
Hi (Th 18 3 1 3 [Aa (0)] [(0,(Aa (IntKind.wrap .i64 (c-f)))),(1,(Aa (IntKind.wrap .i64 (a-d)))),(2,(Aa (IntKind.wrap .i64 (b-e))))]) ((1,some ⟨[Aa d,Aa e,Aa f,Aa i],53⟩)::(0,some ⟨[Aa a,Aa b,Aa c,Aa h],53⟩)::[]) fun j g=>
A2 pg KK.gl g 69 [j] fun k=>
Ag k fun l=>
As R g [some (Aa l)]
noncomputable def c12:Code:=((Tryz.f12).body).getD .skip
noncomputable def q12 (R:AV→Mem→Prop):A1→St→Prop:=Cm pg Tryz.f12 R
noncomputable def vO:Code:=Dy c12 0
noncomputable def Agw (R:AV→Mem→Prop):A1→St→Prop:=Dz pg KK 74 0 c12 0 (q12 R)
noncomputable def Aj5 (R:AV→Mem→Prop) (N0:St→Prop):A1→St→Prop:=Dw N0 (Agw R)
def W5 (a b:AV) (c:Int) (d:AV) (e f g h:Int) (m:Mem):St:=⟨[(0,a),(3,(AV.ptr 0 0)),(4,b),(5,(Aa c)),(8,d),(28,(Aa e)),(29,(Aa f))],((0,some ⟨[Aa g,Aa h],24⟩)::m),100000⟩
noncomputable def aH:Code:=Dy vO 0
noncomputable def kX (R:AV→Mem→Prop) (N0:St→Prop):A1→St→Prop:=Dz pg KK 74 0 vO 0 (Aj5 R N0)
noncomputable def sC (R:AV→Mem→Prop) (N0 N1:St→Prop):A1→St→Prop:=Dw N1 (kX R N0)
def T8 (a b:AV) (c:Int) (d:AV) (e f g h i j:Int) (m:Mem):St:=⟨[(0,a),(3,(AV.ptr 0 0)),(4,b),(5,(Aa c)),(8,d),(9,(Aa e)),(10,(Aa f)),(28,(Aa g)),(29,(Aa h))],((0,some ⟨[Aa i,Aa j],24⟩)::m),200000⟩
noncomputable def pQ:Code:=Dy aH 0
noncomputable def X8 (R:AV→Mem→Prop) (N0 N1:St→Prop):A1→St→Prop:=Dz pg KK 74 0 aH 0 (sC R N0 N1)
noncomputable def Ahi (R:AV→Mem→Prop) (N0 N1 N2:St→Prop):A1→St→Prop:=Dw N2 (X8 R N0 N1)
def Wz (a b:AV) (c:Int) (d:AV) (e f g h:Int) (i:AV) (j k l n:Int) (m:Mem):St:=⟨[(0,a),(3,(AV.ptr 0 0)),(4,b),(5,(Aa c)),(8,d),(9,(Aa e)),(10,(Aa f)),(28,(Aa g)),(29,(Aa h)),(49,i),(50,(Aa j)),(51,(Aa k))],((0,some ⟨[Aa l,Aa n],24⟩)::m),300000⟩
noncomputable def mO (f g:AV) (h:Int) (b:AV) (c a d e:Int) (m:Mem) (R:AV→Mem→Prop) (N0:St→Prop):Prop:=
bif (decide (a<c)) then (
Ff pg KK 74 0 (.loop aH) ⟨[(0,f),(3,(AV.ptr 0 0)),(4,g),(5,(Aa h)),(8,b),(28,(Aa c)),(29,(Aa a)),(30,(Ai (decide (a<c)))),(31,(Aa a)),(9,(Aa a)),(32,(Aa a)),(33,(Aa (IntKind.wrap .i64 (a+(1))))),(10,(Aa (IntKind.wrap .i64 (a+(1)))))],((0,some ⟨[Aa d,Aa e],24⟩)::m),100006⟩ (kX R N0)) else (
A4 (Da b) fun i=>
Ag i fun j=>
bif (decide (j>(256))) then (
As R ((0,some ⟨[Aa d,Aa e],24⟩)::m) [some AV.Bg,some (Aa (2))]) else (
C1 pg KK.gl ((0,some ⟨[Aa d,Aa e],24⟩)::m) 100005 67 [b,AV.fn 68 []] fun k l=>
Rr k<|
As R l [some b,some (Aa (0))]))
noncomputable def Ub (a h:AV) (i:Int) (j:AV) (f b k g c d:Int) (m:Mem) (R:AV→Mem→Prop) (N0 N1:St→Prop):Prop:=
A4 (Da a) fun r=>
Ag r fun e=>
bif (decide (b<e)) then (
A4 (De 1 a (Aa f)) fun l=>
A4 (Ek (Al ((0,some ⟨[Aa c,Aa d],24⟩)::m)) l) fun n=>
A4 (De 1 a (Aa b)) fun o=>
A4 (Ek (Al ((0,some ⟨[Aa c,Aa d],24⟩)::m)) o) fun p=>
A2 pg KK.gl ((0,some ⟨[Aa c,Aa d],24⟩)::m) 66 [n,p,AV.agg [Aa c,Aa d]] fun q=>
A4 (Da q) fun s=>
Ag s fun t=>
Ff pg KK 74 0 (.loop pQ) ⟨[(0,a),(3,(AV.ptr 0 0)),(4,h),(5,(Aa i)),(8,j),(9,(Aa f)),(10,(Aa b)),(28,(Aa k)),(29,(Aa g)),(34,(Aa b)),(35,a),(36,(Aa e)),(37,(Ai (decide (b<e)))),(40,a),(41,(Aa f)),(42,l),(43,n),(44,a),(45,(Aa b)),(46,o),(47,p),(48,(AV.agg [Aa c,Aa d])),(49,q),(50,(Aa t)),(51,(Aa (0)))],((0,some ⟨[Aa c,Aa d],24⟩)::m),200016⟩ (X8 R N0 N1)) else (
N0 ⟨[(0,a),(3,(AV.ptr 0 0)),(4,h),(5,(Aa i)),(8,j),(9,(Aa f)),(10,(Aa b)),(28,(Aa k)),(29,(Aa (IntKind.wrap .i64 (g+(1))))),(34,(Aa b)),(35,a),(36,(Aa e)),(37,(Ai (decide (b<e)))),(67,(Aa (IntKind.wrap .i64 (g+(1)))))],((0,some ⟨[Aa c,Aa d],24⟩)::m),200006⟩)
noncomputable def Oo (k l:AV) (n:Int) (g:AV) (e b o p:Int) (h:AV) (c a i j:Int) (m:Mem) (R:AV→Mem→Prop) (N0 N1 N2:St→Prop):Prop:=
bif (decide (a<c)) then (
A4 (De 2 h (Aa a)) fun q=>
A4 (Hj (Al ((0,some ⟨[Aa i,Aa j],24⟩)::m)) 2 q) fun v=>
I3 v fun w x=>
Ag w fun f=>
Ag x fun d=>
A4 (Mb [Aa (0),Aa (0),Aa (0),Aa (0)] [(0,1),(1,1),(2,1),(3,1)] [(0,(Aa e)),(1,(Aa b)),(2,(Aa f)),(3,(Aa (IntKind.wrap .i64 (d-(1)))))]) fun r=>
Hi (Th 300014 53 4 1 [Aa (0),Aa (0),Aa (0),Aa (0)] [(0,r)]) ((300003,some ⟨[Aa f,Aa d],89⟩)::(300003,some ⟨[Aa (0),Aa (0)],89⟩)::(0,some ⟨[Aa i,Aa j],24⟩)::m) fun s t=>
Hi (app (Al t) 53 4 32 [Aa (0),Aa (0),Aa (0),Aa (0)] 300015 g s) t fun u y=>
N2 ⟨[(0,k),(3,(AV.ptr 0 0)),(4,l),(5,(Aa n)),(8,u),(9,(Aa e)),(10,(Aa b)),(28,(Aa o)),(29,(Aa p)),(49,h),(50,(Aa c)),(51,(Aa (IntKind.wrap .i64 (a+(1))))),(52,(Ai (decide (a<c)))),(53,q),(54,(AV.agg [Aa f,Aa d])),(12,(AV.ptr 300003 0)),(55,g),(56,(Aa e)),(57,(Aa b)),(58,(AV.ptr 300003 0)),(59,(Aa f)),(60,(AV.ptr 300003 1)),(61,(Aa d)),(62,(Aa (IntKind.wrap .i64 (d-(1))))),(63,r),(64,s),(65,u),(66,(Aa (IntKind.wrap .i64 (a+(1)))))],y,300019⟩) else (
N1 ⟨[(0,k),(3,(AV.ptr 0 0)),(4,l),(5,(Aa n)),(8,g),(9,(Aa e)),(10,(Aa (IntKind.wrap .i64 (b+(1))))),(28,(Aa o)),(29,(Aa p)),(49,h),(50,(Aa c)),(51,(Aa a)),(52,(Ai (decide (a<c)))),(38,(Aa b)),(39,(Aa (IntKind.wrap .i64 (b+(1)))))],((0,some ⟨[Aa i,Aa j],24⟩)::m),300004⟩)
noncomputable def F12 (c:AV) (a b:Int) (R:AV→Mem→Prop):Prop:=
A2 pg KK.gl ((0,some ⟨[Aa a,Aa b],24⟩)::[]) 64 [AV.agg [Aa a,Aa b]] fun g=>
Ag g fun d=>
bif (d !=(0)) then (
As R ((0,some ⟨[Aa a,Aa b],24⟩)::[]) [some AV.Bg,some (Aa d)]) else (
A4 (Da c) fun h=>
Ag h fun f=>
bif (decide (f>(24))) then (
As R ((0,some ⟨[Aa a,Aa b],24⟩)::[]) [some AV.Bg,some (Aa (2))]) else (
A2 pg KK.gl ((0,some ⟨[Aa a,Aa b],24⟩)::[]) 65 [AV.agg [Aa a,Aa b],c] fun i=>
Ag i fun e=>
bif (e !=(0)) then (
As R ((0,some ⟨[Aa a,Aa b],24⟩)::[]) [some AV.Bg,some (Aa e)]) else (
A4 (Da c) fun j=>
Ag j fun k=>
Ff pg KK 74 0 (.loop vO) ⟨[(0,c),(1,(AV.agg [Aa a,Aa b])),(3,(AV.ptr 0 0)),(4,AV.Bg),(5,(Aa (0))),(13,(AV.agg [Aa a,Aa b])),(14,(Aa d)),(6,(Aa d)),(15,(Aa d)),(16,(Ai (d !=(0)))),(18,c),(19,(Aa f)),(20,(Ai (decide (f>(24))))),(21,(AV.agg [Aa a,Aa b])),(22,c),(23,(Aa e)),(7,(Aa e)),(24,(Aa e)),(25,(Ai (e !=(0)))),(8,AV.Bg),(27,c),(28,(Aa k)),(29,(Aa (0)))],((0,some ⟨[Aa a,Aa b],24⟩)::[]),147⟩ (Agw R))))
theorem Adw (a:AV) (b c:Int) (R:AV→Mem→Prop) (h:F12 a b c R):Own pg KK.gl 12 [a,AV.agg [Aa b,Aa c]] R:=Fe Re Tryz.func12 (code:=c12) B7 B7 B7 (X:=F12 a b c R) B7 h
noncomputable def Mh:Code:=((Tryz.f17).body).getD .skip
noncomputable def q17 (R:AV→Mem→Prop):A1→St→Prop:=Cm pg Tryz.f17 R
noncomputable def F17 (a b c d:Int) (e:AV) (R:AV→Mem→Prop):Prop:=
A4 (Ek (Al ((0,some ⟨[Aa a,Aa b,Aa c,Aa d],53⟩)::[])) e) fun f=>
Ag f fun g=>
bif (a==g) then (
As R ((0,some ⟨[Aa a,Aa b,Aa c,Aa d],53⟩)::[]) [some (Ai true)]) else (
A4 (Ek (Al ((0,some ⟨[Aa a,Aa b,Aa c,Aa d],53⟩)::[])) e) fun h=>
Ag h fun i=>
As R ((0,some ⟨[Aa a,Aa b,Aa c,Aa d],53⟩)::[]) [some (Ai (b==i))])
noncomputable def c70:Code:=((Tryz.f70).body).getD .skip
noncomputable def q70 (R:AV→Mem→Prop):A1→St→Prop:=Cm pg Tryz.f70 R
noncomputable def An5:Code:=Dy c70 0
noncomputable def Afo (R:AV→Mem→Prop):A1→St→Prop:=Dz pg KK 19 0 c70 0 (q70 R)
noncomputable def Aq1 (R:AV→Mem→Prop) (N0:St→Prop):A1→St→Prop:=Dw N0 (Afo R)
def Aou (a b:AV) (c d e:Int) (m:Mem):St:=⟨[(0,a),(1,b),(4,(Aa c)),(7,(Aa d)),(8,(Aa e))],m,100000⟩
noncomputable def Af0 (b c:AV) (l d a:Int) (m:Mem) (R:AV→Mem→Prop) (N0:St→Prop):Prop:=
bif (decide (a<d)) then (
A4 (De 4 b (Aa a)) fun f=>
A4 (Hj (Al m) 4 f) fun p=>
Hz p fun q c5 c6 c7=>
Ag q fun g=>
Ag c5 fun h=>
Ag c6 fun i=>
Ag c7 fun j=>
H7 (some c) (some [AV.agg [Aa g,Aa h,Aa i,Aa j]]) fun f12 n=>bif KK.pm f12 then A2 pg KK.gl m f12 n (fun k=>
Ha k fun e=>
bif e then (
As R m [some (Aa a)]) else (
N0 ⟨[(0,b),(1,c),(4,(Aa l)),(7,(Aa d)),(8,(Aa (IntKind.wrap .i64 (a+(1))))),(9,(Ai (decide (a<d)))),(10,(Aa a)),(5,(Aa a)),(11,c),(12,b),(13,(Aa a)),(14,f),(15,(AV.agg [Aa g,Aa h,Aa i,Aa j])),(16,(Ai e)),(18,(Aa (IntKind.wrap .i64 (a+(1)))))],m,100074⟩)) else C1 pg KK.gl m 100008 f12 n fun k o=>
Ha k fun e=>
bif e then (
As R o [some (Aa a)]) else (
N0 ⟨[(0,b),(1,c),(4,(Aa l)),(7,(Aa d)),(8,(Aa (IntKind.wrap .i64 (a+(1))))),(9,(Ai (decide (a<d)))),(10,(Aa a)),(5,(Aa a)),(11,c),(12,b),(13,(Aa a)),(14,f),(15,(AV.agg [Aa g,Aa h,Aa i,Aa j])),(16,(Ai e)),(18,(Aa (IntKind.wrap .i64 (a+(1)))))],o,100074⟩)) else (
As R m [some (Aa (-1))])
noncomputable def F70 (a b:AV) (R:AV→Mem→Prop):Prop:=
A4 (Da a) fun c=>
Ag c fun d=>
Ff pg KK 19 0 (.loop An5) ⟨[(0,a),(1,b),(4,(Aa (0))),(6,a),(7,(Aa d)),(8,(Aa (0)))],[],4⟩ (Afo R)
noncomputable def kH:Code:=((Tryz.f18).body).getD .skip
noncomputable def q18 (R:AV→Mem→Prop):A1→St→Prop:=Cm pg Tryz.f18 R
noncomputable def Aod:Code:=Dy kH 0
noncomputable def Afg (R:AV→Mem→Prop):A1→St→Prop:=Dz pg KK 26 0 kH 0 (q18 R)
noncomputable def Ar4 (R:AV→Mem→Prop) (N0:St→Prop):A1→St→Prop:=Dw N0 (Afg R)
def Alv (a b:AV) (c:Bool) (d e:Int) (m:Mem):St:=⟨[(0,a),(1,b),(4,(Ai c)),(12,(Aa d)),(13,(Aa e))],m,100000⟩
noncomputable def Afy (b c:AV) (q:Bool) (d a:Int) (m:Mem) (R:AV→Mem→Prop) (N0:St→Prop):Prop:=
bif (decide (a<d)) then (
A4 (De 4 b (Aa a)) fun e=>
A4 (Hj (Al m) 4 e) fun r=>
Hz r fun c8 c9 O2 Kj=>
Ag c8 fun f=>
Ag c9 fun g=>
Ag O2 fun h=>
Ag Kj fun i=>
A4 (De 4 c (Aa a)) fun j=>
A4 (Hj (Al m) 4 j) fun s=>
Hz s fun kH t u v=>
Ag kH fun k=>
Ag t fun l=>
Ag u fun n=>
Ag v fun o=>
A4 (Ce pg (.binOp .neq 53 (.tmp 0) (.tmp 1) 53) 4 [AV.agg [Aa f,Aa g,Aa h,Aa i],AV.agg [Aa k,Aa l,Aa n,Aa o]] (Al m) 100011) fun w=>
Ha w fun p=>
bif p then (
As R m [some (Ai false)]) else (
N0 ⟨[(0,b),(1,c),(4,(Ai q)),(12,(Aa d)),(13,(Aa (IntKind.wrap .i64 (a+(1))))),(14,(Ai (decide (a<d)))),(15,(Aa a)),(5,(Aa a)),(16,b),(17,(Aa a)),(18,e),(19,(AV.agg [Aa f,Aa g,Aa h,Aa i])),(20,c),(21,(Aa a)),(22,j),(23,(AV.agg [Aa k,Aa l,Aa n,Aa o])),(24,(Ai p)),(25,(Aa (IntKind.wrap .i64 (a+(1)))))],m,100014⟩)) else (
As R m [some (Ai true)])
noncomputable def F18 (a b:AV) (R:AV→Mem→Prop):Prop:=
A4 (Da a) fun e=>
Ag e fun c=>
A4 (Da b) fun f=>
Ag f fun d=>
bif (c !=d) then (
As R [] [some (Ai false)]) else (
A4 (Da a) fun g=>
Ag g fun h=>
Ff pg KK 26 0 (.loop Aod) ⟨[(0,a),(1,b),(4,(Ai false)),(6,a),(7,(Aa c)),(8,b),(9,(Aa d)),(10,(Ai (c !=d))),(11,a),(12,(Aa h)),(13,(Aa (0)))],[],9⟩ (Afg R))
noncomputable def c3:Code:=((Tryz.f3).body).getD .skip
noncomputable def q3 (R:AV→Mem→Prop):A1→St→Prop:=Cm pg Tryz.f3 R
noncomputable def F3 (p:AV) (a b c q:Int) (d:ByteArray) (e f g h i j:Int) (R:AV→Mem→Prop):Prop:=
A2 pg KK.gl ((2,some ⟨[AV.sc (.string d),Aa e,Aa f,Aa g,Aa h,Aa i,Aa j],26⟩)::(1,some ⟨[Aa b,Aa c],24⟩)::(0,some ⟨[Aa a],3⟩)::[]) 4 [] fun x=>
Ha x fun y=>
bif (!y) then (
As R ((2,some ⟨[AV.sc (.string d),Aa e,Aa f,Aa g,Aa h,Aa i,Aa j],26⟩)::(1,some ⟨[Aa b,Aa c],24⟩)::(0,some ⟨[Aa a],3⟩)::[]) [some (Ai false)]) else (
A2 pg KK.gl ((2,some ⟨[AV.sc (.string d),Aa e,Aa f,Aa g,Aa h,Aa i,Aa j],26⟩)::(1,some ⟨[Aa b,Aa c],24⟩)::(0,some ⟨[Aa a],3⟩)::[]) 5 [p,Aa (4),Aa (200)] fun z=>
Ha z fun b3=>
bif (!b3) then (
As R ((2,some ⟨[AV.sc (.string d),Aa e,Aa f,Aa g,Aa h,Aa i,Aa j],26⟩)::(1,some ⟨[Aa b,Aa c],24⟩)::(0,some ⟨[Aa a],3⟩)::[]) [some (Ai true)]) else (
A2 pg KK.gl ((2,some ⟨[AV.sc (.string d),Aa e,Aa f,Aa g,Aa h,Aa i,Aa j],26⟩)::(1,some ⟨[Aa b,Aa c],24⟩)::(0,some ⟨[Aa a],3⟩)::[]) 6 [p,Aa a,AV.agg [Aa b,Aa c],AV.sc (.string ⟨#[65,49]⟩),Aa q,AV.agg [AV.sc (.string d),Aa e,Aa f,Aa g,Aa h,Aa i,Aa j]] fun v4=>
rG v4 fun c5 c6 c7=>
Hz c5 fun c8 c9 O2 Kj=>
Cd c8 fun s12=>
Ag c9 fun l=>
Ag O2 fun m=>
Cd Kj fun s15=>
Ag c7 fun aa=>
bif (aa !=(0)) then (
As R ((208,some ⟨[AV.sc (.string s12),Aa l,Aa m,AV.sc (.string s15)],30⟩)::(208,some ⟨[AV.sc (.string ⟨#[]⟩),Aa (0),Aa (0),AV.sc (.string ⟨#[]⟩)],30⟩)::(2,some ⟨[AV.sc (.string d),Aa e,Aa f,Aa g,Aa h,Aa i,Aa j],26⟩)::(1,some ⟨[Aa b,Aa c],24⟩)::(0,some ⟨[Aa a],3⟩)::[]) [some (Ai true)]) else (
A2 pg KK.gl ((208,some ⟨[AV.sc (.string s12),Aa l,Aa m,AV.sc (.string s15)],30⟩)::(208,some ⟨[AV.sc (.string ⟨#[]⟩),Aa (0),Aa (0),AV.sc (.string ⟨#[]⟩)],30⟩)::(2,some ⟨[AV.sc (.string d),Aa e,Aa f,Aa g,Aa h,Aa i,Aa j],26⟩)::(1,some ⟨[Aa b,Aa c],24⟩)::(0,some ⟨[Aa a],3⟩)::[]) 7 [AV.agg [AV.sc (.string s12),Aa l,Aa m,AV.sc (.string s15)]] fun ab=>
E7 ab fun kH ad=>
Cd kH fun s20=>
Ag ad fun ae=>
A2 pg KK.gl ((208,some ⟨[AV.sc (.string s12),Aa l,Aa m,AV.sc (.string s15)],30⟩)::(208,some ⟨[AV.sc (.string ⟨#[]⟩),Aa (0),Aa (0),AV.sc (.string ⟨#[]⟩)],30⟩)::(2,some ⟨[AV.sc (.string d),Aa e,Aa f,Aa g,Aa h,Aa i,Aa j],26⟩)::(1,some ⟨[Aa b,Aa c],24⟩)::(0,some ⟨[Aa a],3⟩)::[]) 8 [AV.sc (.string s20)] fun af=>
rG af fun ag ah ai=>
Hz ag fun aj ak c28 al=>
Cd aj fun s30=>
Ag ak fun n=>
Ag c28 fun o=>
Cd al fun s33=>
Ha ah fun am=>
Ag ai fun an=>
A2 pg KK.gl ((353,some ⟨[AV.sc (.string s30),Aa n,Aa o,AV.sc (.string s33)],30⟩)::(353,some ⟨[AV.sc (.string ⟨#[]⟩),Aa (0),Aa (0),AV.sc (.string ⟨#[]⟩)],30⟩)::(208,some ⟨[AV.sc (.string s12),Aa l,Aa m,AV.sc (.string s15)],30⟩)::(208,some ⟨[AV.sc (.string ⟨#[]⟩),Aa (0),Aa (0),AV.sc (.string ⟨#[]⟩)],30⟩)::(2,some ⟨[AV.sc (.string d),Aa e,Aa f,Aa g,Aa h,Aa i,Aa j],26⟩)::(1,some ⟨[Aa b,Aa c],24⟩)::(0,some ⟨[Aa a],3⟩)::[]) 9 [AV.Bg,AV.agg [AV.sc (.string s12),Aa l,Aa m,AV.sc (.string s15)],Aa q] fun ao=>
E7 ao fun ap aq=>
Ag aq fun ar=>
A2 pg KK.gl ((353,some ⟨[AV.sc (.string s30),Aa n,Aa o,AV.sc (.string s33)],30⟩)::(353,some ⟨[AV.sc (.string ⟨#[]⟩),Aa (0),Aa (0),AV.sc (.string ⟨#[]⟩)],30⟩)::(208,some ⟨[AV.sc (.string s12),Aa l,Aa m,AV.sc (.string s15)],30⟩)::(208,some ⟨[AV.sc (.string ⟨#[]⟩),Aa (0),Aa (0),AV.sc (.string ⟨#[]⟩)],30⟩)::(2,some ⟨[AV.sc (.string d),Aa e,Aa f,Aa g,Aa h,Aa i,Aa j],26⟩)::(1,some ⟨[Aa b,Aa c],24⟩)::(0,some ⟨[Aa a],3⟩)::[]) 10 [ap,AV.agg [AV.sc (.string s30),Aa n,Aa o,AV.sc (.string s33)],Aa q] fun au=>
E7 au fun c41 c42=>
Ag c42 fun av=>
A4 (De 1 p (Aa a)) fun aw=>
A4 (Ek (Al ((353,some ⟨[AV.sc (.string s30),Aa n,Aa o,AV.sc (.string s33)],30⟩)::(353,some ⟨[AV.sc (.string ⟨#[]⟩),Aa (0),Aa (0),AV.sc (.string ⟨#[]⟩)],30⟩)::(208,some ⟨[AV.sc (.string s12),Aa l,Aa m,AV.sc (.string s15)],30⟩)::(208,some ⟨[AV.sc (.string ⟨#[]⟩),Aa (0),Aa (0),AV.sc (.string ⟨#[]⟩)],30⟩)::(2,some ⟨[AV.sc (.string d),Aa e,Aa f,Aa g,Aa h,Aa i,Aa j],26⟩)::(1,some ⟨[Aa b,Aa c],24⟩)::(0,some ⟨[Aa a],3⟩)::[])) aw) fun ax=>
A4 (Mb [Aa (0),Aa (0)] [(0,1),(1,1)] []) fun ay=>
A2 pg KK.gl ((353,some ⟨[AV.sc (.string s30),Aa n,Aa o,AV.sc (.string s33)],30⟩)::(353,some ⟨[AV.sc (.string ⟨#[]⟩),Aa (0),Aa (0),AV.sc (.string ⟨#[]⟩)],30⟩)::(208,some ⟨[AV.sc (.string s12),Aa l,Aa m,AV.sc (.string s15)],30⟩)::(208,some ⟨[AV.sc (.string ⟨#[]⟩),Aa (0),Aa (0),AV.sc (.string ⟨#[]⟩)],30⟩)::(2,some ⟨[AV.sc (.string d),Aa e,Aa f,Aa g,Aa h,Aa i,Aa j],26⟩)::(1,some ⟨[Aa b,Aa c],24⟩)::(0,some ⟨[Aa a],3⟩)::[]) 11 [ax,AV.agg [AV.sc (.string s30),Aa n,Aa o,AV.sc (.string s33)],Aa q,AV.agg [AV.sc (.string d),Aa e,Aa f,Aa g,Aa h,Aa i,Aa j],ay] fun az=>
E7 az fun ba c49=>
Ag c49 fun bb=>
C1 pg KK.gl ((353,some ⟨[AV.sc (.string s30),Aa n,Aa o,AV.sc (.string s33)],30⟩)::(353,some ⟨[AV.sc (.string ⟨#[]⟩),Aa (0),Aa (0),AV.sc (.string ⟨#[]⟩)],30⟩)::(208,some ⟨[AV.sc (.string s12),Aa l,Aa m,AV.sc (.string s15)],30⟩)::(208,some ⟨[AV.sc (.string ⟨#[]⟩),Aa (0),Aa (0),AV.sc (.string ⟨#[]⟩)],30⟩)::(2,some ⟨[AV.sc (.string d),Aa e,Aa f,Aa g,Aa h,Aa i,Aa j],26⟩)::(1,some ⟨[Aa b,Aa c],24⟩)::(0,some ⟨[Aa a],3⟩)::[]) 516 12 [p,AV.agg [Aa b,Aa c]] fun bc bd=>
E7 bc fun c52 be=>
Ag be fun s=>
C1 pg KK.gl bd 586 13 [p] fun t r=>
A4 (Ek (Al r) (AV.ptr 0 0)) fun bf=>
Ag bf fun bg=>
A4 (De 1 t (Aa bg)) fun bh=>
B4 pg (Al r) 32 bh ba fun bz d59=>
A4 (Hj (Al (Ad r d59)) 2 (AV.ptr 1 0)) fun bi=>
I3 bi fun c61 c62=>
Ag c61 fun bj=>
Ag c62 fun bk=>
C1 pg KK.gl (Ad r d59) 658 12 [t,AV.agg [Aa bj,Aa bk]] fun bl k=>
E7 bl fun c66 bm=>
Ag bm fun u=>
bif (ae !=(0)) then (
As R k [some (Ai false)]) else (
bif (an !=(0)) then (
As R k [some (Ai false)]) else (
bif (ar !=(0)) then (
As R k [some (Ai false)]) else (
bif (av !=(0)) then (
As R k [some (Ai false)]) else (
bif (bb !=(0)) then (
As R k [some (Ai false)]) else (
bif (!am) then (
As R k [some (Ai false)]) else (
A4 (Da c41) fun bn=>
Ag bn fun bo=>
bif (decide (bo>(0))) then (
As R k [some (Ai false)]) else (
bif (s==(2)) then (
As R k [some (Ai true)]) else (
bif (u==(2)) then (
As R k [some (Ai true)]) else (
bif (s==(0)) then (
bif (u==(0)) then (
C1 pg KK.gl k 771 14 [c52,AV.ptr 0 0] fun bp v=>
A4 (Da bp) fun bq=>
Ag bq fun br=>
A4 (Da c52) fun bs=>
Ag bs fun bt=>
bif (decide (br<bt)) then (
C1 pg KK.gl v 844 14 [c52,AV.ptr 0 0] fun bu w=>
A2 pg KK.gl w 18 [c66,bu] fun bv=>
Ha bv fun bw=>
As R w [some (Ai bw)]) else (
As R v [some (Ai false)])) else (
As R k [some (Ai false)])) else (
As R k [some (Ai false)])))))))))))))
noncomputable def c62:Code:=((Tryz.f62).body).getD .skip
noncomputable def q62 (R:AV→Mem→Prop):A1→St→Prop:=Cm pg Tryz.f62 R
noncomputable def F62 (a:AV) (R:AV→Mem→Prop):Prop:=
Ve a fun c=>
bif c then (
As R [] [some AV.Bg]) else (
Hi (Th 3 135 6 0 [Aa (0),Aa (0),Aa (0),Aa (0),Aa (0),Aa (0)] []) [] fun d b=>
Hi (app (Al b) 135 6 48 [Aa (0),Aa (0),Aa (0),Aa (0),Aa (0),Aa (0)] 5 d a) b fun e f=>
As R f [some e])
theorem Ab1 (a:AV) (R:AV→Mem→Prop) (h:F62 a R):Own pg KK.gl 62 [a] R:=Fe Re Tryz.func62 (code:=c62) B7 B7 B7 (X:=F62 a R) B7 h
noncomputable def c51:Code:=((Tryz.f51).body).getD .skip
noncomputable def q51 (R:AV→Mem→Prop):A1→St→Prop:=Cm pg Tryz.f51 R
noncomputable def F51 (a:AV) (R:AV→Mem→Prop):Prop:=
Ve a fun c=>
bif c then (
As R [] [some AV.Bg]) else (
Hi (Th 3 159 5 0 [AV.sc (.string ⟨#[]⟩),Aa (0),Aa (0),AV.sc (.string ⟨#[]⟩),Aa (0)] []) [] fun d b=>
Hi (app (Al b) 159 5 56 [AV.sc (.string ⟨#[]⟩),Aa (0),Aa (0),AV.sc (.string ⟨#[]⟩),Aa (0)] 5 d a) b fun e f=>
As R f [some e])
theorem Aeb (a:AV) (R:AV→Mem→Prop) (h:F51 a R):Own pg KK.gl 51 [a] R:=Fe Re Tryz.func51 (code:=c51) B7 B7 B7 (X:=F51 a R) B7 h
noncomputable def Wm:Code:=((Tryz.f13).body).getD .skip
noncomputable def q13 (R:AV→Mem→Prop):A1→St→Prop:=Cm pg Tryz.f13 R
noncomputable def F13 (a:AV) (R:AV→Mem→Prop):Prop:=
Ve a fun c=>
bif c then (
As R [] [some AV.Bg]) else (
Hi (Th 3 32 1 0 [AV.Bg] []) [] fun d b=>
Hi (app (Al b) 32 1 24 [AV.Bg] 5 d a) b fun e f=>
As R f [some e])
theorem Ad3 (a:AV) (R:AV→Mem→Prop) (h:F13 a R):Own pg KK.gl 13 [a] R:=Fe Re Tryz.func13 (code:=Wm) B7 B7 B7 (X:=F13 a R) B7 h
noncomputable def Is:Code:=((Tryz.f16).body).getD .skip
noncomputable def q16 (R:AV→Mem→Prop):A1→St→Prop:=Cm pg Tryz.f16 R
noncomputable def F16 (a:AV) (R:AV→Mem→Prop):Prop:=
Ve a fun c=>
bif c then (
As R [] [some AV.Bg]) else (
Hi (Th 3 53 4 0 [Aa (0),Aa (0),Aa (0),Aa (0)] []) [] fun d b=>
Hi (app (Al b) 53 4 32 [Aa (0),Aa (0),Aa (0),Aa (0)] 5 d a) b fun e f=>
As R f [some e])
theorem Ad5 (a:AV) (R:AV→Mem→Prop) (h:F16 a R):Own pg KK.gl 16 [a] R:=Fe Re Tryz.func16 (code:=Is) B7 B7 B7 (X:=F16 a R) B7 h
noncomputable def tD (a:AV) (b c:Int) (m:Mem) (R:AV→Mem→Prop):Prop:=
A4 (Da a) fun g=>
Ag g fun h=>
A4 (Ce pg (.slice 40 (.tmp 0) (some (.tmp 1)) (some (.tmp 2)) (some (.tmp 3))) 40 [a,Aa b,Aa c,Aa h] (Al m) 7) fun q=>
bif (b==c) then (
Ic (Nat.ble 13 65) (As R m [some a])) else (
A4 (Da a) fun i=>
Ag i fun j=>
H0 (Ce pg (.slice 40 (.tmp 0) none (some (.tmp 1)) none) 40 [a,Aa b] (Cy m (A3 a++(A3 (Aa b)++([])))) 16) fun d d5=>
H0 (Ce pg (.slice 40 (.tmp 0) (some (.tmp 1)) none none) 40 [a,Aa c] (Cy (Ad m d5) (A3 a++(A3 (Aa c)++([])))) 19) fun e d6=>
H0 (app (Cy (Ad (Ad m d5) d6) (A3 d++(A3 e++([])))) 159 5 56 [AV.sc (.string ⟨#[]⟩),Aa (0),Aa (0),AV.sc (.string ⟨#[]⟩),Aa (0)] 20 d e) fun f d7=>
Ic (E3 [0,0,3,0,0,24,63,127] [⟨[],[]⟩,⟨[],[]⟩,⟨d5,A3 a++(A3 (Aa b)++([]))⟩,⟨[],[]⟩,⟨[],[]⟩,⟨d6,A3 a++(A3 (Aa c)++([]))⟩,⟨d7,A3 d++(A3 e++([]))⟩,⟨[],[]⟩]) (A4 (Da f) fun k=>
Ag k fun l=>
A4 (Ce pg (.slice 40 (.tmp 0) (some (.tmp 1)) (some (.tmp 2)) none) 40 [f,Aa l,Aa j] (Al (Ad (Ad (Ad m d5) d6) d7)) 26) fun n=>
Hi (Ce pg (.call ⟨.builtin .clear,#[.tmp 0],#[40]⟩) 0 [n] (Al (Ad (Ad (Ad m d5) d6) d7)) 27) (Ad (Ad (Ad m d5) d6) d7) fun o p=>
Rr o<|
Ic (Nat.ble 30 65) (As R p [some f])))
theorem iU (a:AV) (b c:Int) (m:Mem) (R:AV→Mem→Prop) (h:tD a b c m R):C1 pg KK.gl m 1 53 [a,Aa b,Aa c] R:=Ot Re Tryz.func53 (code:=((Tryz.f53).body).getD .skip) B7 B7 B7 (X:=tD a b c m R) B7 h
noncomputable def Nq (d e:Int) (a f:AV) (m:Mem) (R:AV→Mem→Prop):Prop:=
A4 (Ek (Al m) a) fun g=>
A4 (Ek (Al m) f) fun h=>
Cd h fun s2=>
A4 (Mb [AV.sc (.string ⟨#[]⟩),Aa (0),Aa (0),AV.sc (.string ⟨#[]⟩)] [(0,1),(1,1),(2,1),(3,1)] [(0,(AV.sc (.string s2))),(1,(Aa d)),(2,(Aa e))]) fun i=>
Hi (Th 200018 30 4 1 [AV.sc (.string ⟨#[]⟩),Aa (0),Aa (0),AV.sc (.string ⟨#[]⟩)] [(0,i)]) m fun j b=>
Hi (app (Al b) 30 4 48 [AV.sc (.string ⟨#[]⟩),Aa (0),Aa (0),AV.sc (.string ⟨#[]⟩)] 200019 g j) b fun k c=>
B4 pg (Al c) 147 a k fun l d6=>
Ic (Nat.ble 200021 200077) (As R (Ad c d6) [])
theorem Sz (a b:Int) (c d:AV) (m:Mem) (R:AV→Mem→Prop) (h:Nq a b c d m R):C1 pg KK.gl m 200013 119 [Aa a,Aa b,c,d] R:=Ot Re Tryz.func119 (code:=((Tryz.f119).body).getD .skip) B7 B7 B7 (X:=Nq a b c d m R) B7 h
noncomputable def Nz (d e:Int) (a f:AV) (m:Mem) (R:AV→Mem→Prop):Prop:=
A4 (Ek (Al m) a) fun g=>
A4 (Ek (Al m) f) fun h=>
Cd h fun s2=>
A4 (Mb [AV.sc (.string ⟨#[]⟩),Aa (0),Aa (0),AV.sc (.string ⟨#[]⟩)] [(0,1),(1,1),(2,1),(3,1)] [(0,(AV.sc (.string s2))),(1,(Aa d)),(2,(Aa e))]) fun i=>
Hi (Th 300020 30 4 1 [AV.sc (.string ⟨#[]⟩),Aa (0),Aa (0),AV.sc (.string ⟨#[]⟩)] [(0,i)]) m fun j b=>
Hi (app (Al b) 30 4 48 [AV.sc (.string ⟨#[]⟩),Aa (0),Aa (0),AV.sc (.string ⟨#[]⟩)] 300021 g j) b fun k c=>
B4 pg (Al c) 147 a k fun l d6=>
Ic (Nat.ble 300023 300079) (As R (Ad c d6) [])
theorem Rv (a b:Int) (c d:AV) (m:Mem) (R:AV→Mem→Prop) (h:Nz a b c d m R):C1 pg KK.gl m 300015 119 [Aa a,Aa b,c,d] R:=Ot Re Tryz.func119 (code:=((Tryz.f119).body).getD .skip) B7 B7 B7 (X:=Nz a b c d m R) B7 h
noncomputable def Nn (d e:Int) (a f:AV) (m:Mem) (R:AV→Mem→Prop):Prop:=
A4 (Ek (Al m) a) fun g=>
A4 (Ek (Al m) f) fun h=>
Cd h fun s2=>
A4 (Mb [AV.sc (.string ⟨#[]⟩),Aa (0),Aa (0),AV.sc (.string ⟨#[]⟩)] [(0,1),(1,1),(2,1),(3,1)] [(0,(AV.sc (.string s2))),(1,(Aa d)),(2,(Aa e))]) fun i=>
Hi (Th 400074 30 4 1 [AV.sc (.string ⟨#[]⟩),Aa (0),Aa (0),AV.sc (.string ⟨#[]⟩)] [(0,i)]) m fun j b=>
Hi (app (Al b) 30 4 48 [AV.sc (.string ⟨#[]⟩),Aa (0),Aa (0),AV.sc (.string ⟨#[]⟩)] 400075 g j) b fun k c=>
B4 pg (Al c) 147 a k fun l d6=>
Ic (Nat.ble 400077 400133) (As R (Ad c d6) [])
theorem Sd (a b:Int) (c d:AV) (m:Mem) (R:AV→Mem→Prop) (h:Nn a b c d m R):C1 pg KK.gl m 400069 119 [Aa a,Aa b,c,d] R:=Ot Re Tryz.func119 (code:=((Tryz.f119).body).getD .skip) B7 B7 B7 (X:=Nn a b c d m R) B7 h
noncomputable def Aqu (a b:AV) (m:Mem) (R:AV→Mem→Prop):Prop:=
C1 pg KK.gl m 773 16 [a] fun c d=>
C1 pg KK.gl d 838 15 [c,AV.fn 17 [b]] fun e f=>
Ic (Nat.ble 903 835) (As R f [some e])
noncomputable def Aqy (a b:AV) (m:Mem) (R:AV→Mem→Prop):Prop:=
C1 pg KK.gl m 846 16 [a] fun c d=>
C1 pg KK.gl d 911 15 [c,AV.fn 17 [b]] fun e f=>
Ic (Nat.ble 976 908) (As R f [some e])
noncomputable def zK:Code:=((Tryz.f63).body).getD .skip
noncomputable def q63 (R:AV→Mem→Prop):A1→St→Prop:=Cm pg Tryz.f63 R
noncomputable def zF:Code:=Dy zK 0
noncomputable def xD (R:AV→Mem→Prop):A1→St→Prop:=Dz pg KK 36 0 zK 0 (q63 R)
noncomputable def Aim (R:AV→Mem→Prop) (N0:St→Prop):A1→St→Prop:=Dw N0 (xD R)
def lX (a b:AV) (c:Int) (d:AV) (e f:Int) (m:Mem):St:=⟨[(0,a),(2,b),(3,(Aa c)),(9,d),(10,(Aa e)),(11,(Aa f))],m,100000⟩
noncomputable def vT:Code:=Dy zK 1
noncomputable def yB (R:AV→Mem→Prop):A1→St→Prop:=Dz pg KK 36 0 zK 1 (q63 R)
noncomputable def Ag0 (R:AV→Mem→Prop) (N0:St→Prop):A1→St→Prop:=Dw N0 (yB R)
def lI (a b c:AV) (d e:Int) (m:Mem):St:=⟨[(2,a),(6,b),(25,c),(26,(Aa d)),(27,(Aa e))],m,200000⟩
noncomputable def mH (f h:AV) (a:Int) (g:AV) (d c:Int) (m:Mem) (R:AV→Mem→Prop) (N0:St→Prop):Prop:=
bif (decide (c<d)) then (
A4 (De 1 g (Aa c)) fun i=>
A4 (Ek (Al m) i) fun e=>
A4 (Da e) fun l=>
Ag l fun b=>
bif (decide ((IntKind.wrap .i64 (a+b))<(0))) then (
A4 (Ce pg (.makeInterface 9 (.tmp 0)) 20 [AV.sc (.string ⟨#[108,101,110,32,111,117,116,32,111,102,32,114,97,110,103,101]⟩)] (Al m) 100011) fun j=>
A4 (Ce pg (.panic (.tmp 0)) 0 [j] (Al m) 100012) fun q=>
N0 ⟨[(0,f),(2,h),(3,(Aa (IntKind.wrap .i64 (a+b)))),(9,g),(10,(Aa d)),(11,(Aa (IntKind.wrap .i64 (c+(1))))),(12,(Ai (decide (c<d)))),(13,i),(14,e),(5,e),(15,(Aa a)),(16,e),(17,(Aa b)),(18,(Aa (IntKind.wrap .i64 (a+b)))),(19,(Aa (IntKind.wrap .i64 (a+b)))),(20,(Ai (decide ((IntKind.wrap .i64 (a+b))<(0))))),(21,j),(22,(Aa (IntKind.wrap .i64 (c+(1)))))],m,100015⟩) else (
N0 ⟨[(0,f),(2,h),(3,(Aa (IntKind.wrap .i64 (a+b)))),(9,g),(10,(Aa d)),(11,(Aa (IntKind.wrap .i64 (c+(1))))),(12,(Ai (decide (c<d)))),(13,i),(14,e),(5,e),(15,(Aa a)),(16,e),(17,(Aa b)),(18,(Aa (IntKind.wrap .i64 (a+b)))),(19,(Aa (IntKind.wrap .i64 (a+b)))),(20,(Ai (decide ((IntKind.wrap .i64 (a+b))<(0))))),(22,(Aa (IntKind.wrap .i64 (c+(1)))))],m,100013⟩)) else (
C1 pg KK.gl m 100002 137 [AV.Bg,Aa a] fun k n=>
A4 (Da f) fun o=>
Ag o fun p=>
Ff pg KK 36 0 (.loop vT) ⟨[(0,f),(2,h),(3,(Aa a)),(9,g),(10,(Aa d)),(11,(Aa c)),(12,(Ai (decide (c<d)))),(23,(Aa a)),(24,k),(6,k),(25,f),(26,(Aa p)),(27,(Aa (0)))],n,100070⟩ (yB R))
theorem Aah (a b:AV) (c:Int) (d:AV) (e f:Int) (m:Mem) (R:AV→Mem→Prop) (N0:St→Prop):W pg KK 36 0 zF (lX a b c d e f m) (Aim R N0)=mH a b c d e f m R N0:=by kernel_rfl
theorem Anm (R:AV→Mem→Prop) {σ:Type} (I:σ→Prop) (a b:σ→AV) (c:σ→Int) (d:σ→AV) (e f:σ→Int) (m:σ→Mem) (μ:σ→Nat) (step:∀x,I x→mH (a x) (b x) (c x) (d x) (e x) (f x) (m x) R (fun s'=>∃y,I y∧μ y<μ x∧Md KK 36 0 s' (lX (a y) (b y) (c y) (d y) (e y) (f y) (m y)))) (x:σ) (hx:I x) {s:St} (hw:Md KK 36 0 s (lX (a x) (b x) (c x) (d x) (e x) (f x) (m x))):Ff pg KK 36 0 (.loop zF) s (xD R):=
 Ff.zZ hw (Ff.loops Re I (fun x=>lX (a x) (b x) (c x) (d x) (e x) (f x) (m x)) μ (fun x hx=>(Aah (a x) (b x) (c x) (d x) (e x) (f x) (m x) R _).mpr (step x hx)) x hx)
noncomputable def Xp (h c e:AV) (d a:Int) (m:Mem) (R:AV→Mem→Prop) (N0:St→Prop):Prop:=
bif (decide (a<d)) then (
A4 (De 1 e (Aa a)) fun f=>
A4 (Ek (Al m) f) fun b=>
Hi (app (Al m) 135 6 48 [Aa (0),Aa (0),Aa (0),Aa (0),Aa (0),Aa (0)] 200006 c b) m fun g i=>
N0 ⟨[(2,h),(6,g),(25,e),(26,(Aa d)),(27,(Aa (IntKind.wrap .i64 (a+(1))))),(28,(Ai (decide (a<d)))),(29,f),(30,b),(8,b),(31,c),(32,b),(33,g),(34,(Aa (IntKind.wrap .i64 (a+(1)))))],i,200010⟩) else (
As R m [some c])
theorem rJ (a b c:AV) (d e:Int) (m:Mem) (R:AV→Mem→Prop) (N0:St→Prop):W pg KK 36 0 vT (lI a b c d e m) (Ag0 R N0)=Xp a b c d e m R N0:=by kernel_rfl
theorem Aga (R:AV→Mem→Prop) {σ:Type} (I:σ→Prop) (a b c:σ→AV) (d e:σ→Int) (m:σ→Mem) (μ:σ→Nat) (step:∀x,I x→Xp (a x) (b x) (c x) (d x) (e x) (m x) R (fun s'=>∃y,I y∧μ y<μ x∧Md KK 36 0 s' (lI (a y) (b y) (c y) (d y) (e y) (m y)))) (x:σ) (hx:I x) {s:St} (hw:Md KK 36 0 s (lI (a x) (b x) (c x) (d x) (e x) (m x))):Ff pg KK 36 0 (.loop vT) s (yB R):=
 Ff.zZ hw (Ff.loops Re I (fun x=>lI (a x) (b x) (c x) (d x) (e x) (m x)) μ (fun x hx=>(rJ (a x) (b x) (c x) (d x) (e x) (m x) R _).mpr (step x hx)) x hx)
noncomputable def F63 (a:AV) (R:AV→Mem→Prop):Prop:=
A4 (Da a) fun b=>
Ag b fun c=>
Ff pg KK 36 0 (.loop zF) ⟨[(0,a),(2,AV.Bg),(3,(Aa (0))),(9,a),(10,(Aa c)),(11,(Aa (0)))],[],5⟩ (xD R)
theorem Ab6 (a:AV) (R:AV→Mem→Prop) (h:F63 a R):Own pg KK.gl 63 [a] R:=Fe Re Tryz.func63 (code:=zK) B7 B7 B7 (X:=F63 a R) B7 h
noncomputable def Ard:Code:=((Tryz.f137).body).getD .skip
noncomputable def Aue (R:AV→Mem→Prop):A1→St→Prop:=Cm pg Tryz.f137 R
noncomputable def pM (a:AV) (b:Int) (R:AV→Mem→Prop):Prop:=
bif (decide (b<(0))) then (
A4 (Ce pg (.makeInterface 9 (.tmp 0)) 20 [AV.sc (.string ⟨#[99,97,110,110,111,116,32,98,101,32,110,101,103,97,116,105,118,101]⟩)] (Al []) 3) fun i=>
A4 (Ce pg (.panic (.tmp 0)) 0 [i] (Al []) 4) fun v1=>
A4 (Ce pg (.call ⟨.builtin .cap,#[.tmp 0],#[32]⟩) 3 [a] (Al []) 7) fun j=>
Ag j fun c=>
A4 (Da a) fun k=>
Ag k fun d=>
bif (decide ((IntKind.wrap .i64 (b-(IntKind.wrap .i64 (c-d))))>(0))) then (
A4 (Ce pg (.call ⟨.builtin .cap,#[.tmp 0],#[32]⟩) 3 [a] (Al []) 17) fun l=>
Ag l fun m=>
A4 (Ce pg (.slice 32 (.tmp 0) none (some (.tmp 1)) none) 32 [a,Aa m] (Al []) 18) fun n=>
Hi (Ce pg (.call ⟨.builtin .append,#[.tmp 0,.tmp 1],#[32,3]⟩) 32 [n,Aa (IntKind.wrap .i64 (b-(IntKind.wrap .i64 (c-d))))] (Al []) 20) [] fun o e=>
A4 (Da a) fun p=>
Ag p fun q=>
A4 (Ce pg (.slice 32 (.tmp 0) none (some (.tmp 1)) none) 32 [o,Aa q] (Al e) 23) fun r=>
As R e [some r]) else (
As R [] [some a])) else (
A4 (Ce pg (.call ⟨.builtin .cap,#[.tmp 0],#[32]⟩) 3 [a] (Al []) 5) fun s=>
Ag s fun f=>
A4 (Da a) fun t=>
Ag t fun g=>
bif (decide ((IntKind.wrap .i64 (b-(IntKind.wrap .i64 (f-g))))>(0))) then (
A4 (Ce pg (.call ⟨.builtin .cap,#[.tmp 0],#[32]⟩) 3 [a] (Al []) 15) fun u=>
Ag u fun v=>
A4 (Ce pg (.slice 32 (.tmp 0) none (some (.tmp 1)) none) 32 [a,Aa v] (Al []) 16) fun w=>
Hi (Ce pg (.call ⟨.builtin .append,#[.tmp 0,.tmp 1],#[32,3]⟩) 32 [w,Aa (IntKind.wrap .i64 (b-(IntKind.wrap .i64 (f-g))))] (Al []) 18) [] fun x h=>
A4 (Da a) fun y=>
Ag y fun z=>
A4 (Ce pg (.slice 32 (.tmp 0) none (some (.tmp 1)) none) 32 [x,Aa z] (Al h) 21) fun aa=>
As R h [some aa]) else (
As R [] [some a]))
theorem bW (a:AV) (b:Int) (R:AV→Mem→Prop) (h:pM a b R):Own pg KK.gl 137 [a,Aa b] R:=Fe Re Tryz.func137 (code:=Ard) B7 B7 B7 (X:=pM a b R) B7 h
noncomputable def Zn (d:AV) (a:Int) (e:AV) (m:Mem) (R:AV→Mem→Prop):Prop:=
A4 (Ce pg (.slice 32 (.tmp 0) (some (.tmp 1)) none none) 32 [d,Aa a] (Al m) 4) fun v0=>
A4 (Da e) fun p=>
Ag p fun b=>
bif (b==(0)) then (
As R m [some d]) else (
A4 (Da d) fun q=>
Ag q fun f=>
bif (a==f) then (
Hi (app (Al m) 135 6 48 [Aa (0),Aa (0),Aa (0),Aa (0),Aa (0),Aa (0)] 18 d e) m fun r s=>
As R s [some r]) else (
A4 (Ce pg (.call ⟨.builtin .cap,#[.tmp 0],#[32]⟩) 3 [d] (Al m) 20) fun t=>
Ag t fun u=>
bif (decide ((IntKind.wrap .i64 (f+b))>u)) then (
A4 (Ce pg (.slice 32 (.tmp 0) none (some (.tmp 1)) none) 32 [d,Aa a] (Al m) 24) fun v=>
Hi (Ce pg (.call ⟨.builtin .append,#[.tmp 0,.tmp 1],#[32,3]⟩) 32 [v,Aa (IntKind.wrap .i64 ((IntKind.wrap .i64 (f+b))-a))] (Al m) 30) m fun g i=>
A4 (Ce pg (.slice 32 (.tmp 0) (some (.tmp 1)) none none) 32 [g,Aa a] (Al i) 34) fun w=>
Hi (Ce pg (.call ⟨.builtin .copy,#[.tmp 0,.tmp 1],#[32,31]⟩) 3 [w,e] (Al i) 36) i fun x h=>
Ag x fun am=>
H0 (Ce pg (.slice 32 (.tmp 0) (some (.tmp 1)) none none) 32 [g,Aa (IntKind.wrap .i64 (a+b))] (Cy h (A3 g++(A3 (Aa (IntKind.wrap .i64 (a+b)))++([])))) 41) fun j d13=>
H0 (Ce pg (.slice 32 (.tmp 0) (some (.tmp 1)) none none) 32 [d,Aa a] (Cy (Ad h d13) (A3 d++(A3 (Aa a)++([])))) 44) fun k d14=>
H0 (Ce pg (.call ⟨.builtin .copy,#[.tmp 0,.tmp 1],#[32,32]⟩) 3 [j,k] (Cy (Ad (Ad h d13) d14) (A3 j++(A3 k++([])))) 45) fun y d15=>
Ag y fun an=>
Ic (E3 [0,0,0,6,15,0,0,96,255] [⟨[],[]⟩,⟨[],[]⟩,⟨[],[]⟩,⟨[],[]⟩,⟨d13,A3 g++(A3 (Aa (IntKind.wrap .i64 (a+b)))++([]))⟩,⟨[],[]⟩,⟨[],[]⟩,⟨d14,A3 d++(A3 (Aa a)++([]))⟩,⟨d15,A3 j++(A3 k++([]))⟩]) (As R (Ad (Ad (Ad h d13) d14) d15) [some g])) else (
A4 (Ce pg (.slice 32 (.tmp 0) none (some (.tmp 1)) none) 32 [d,Aa (IntKind.wrap .i64 (f+b))] (Al m) 26) fun c=>
A4 (Ce pg (.slice 32 (.tmp 0) (some (.tmp 1)) none none) 32 [c,Aa (IntKind.wrap .i64 (a+b))] (Al m) 33) fun z=>
A2 pg KK.gl m 258 [e,z] fun aa=>
Ha aa fun ab=>
bif (!ab) then (
H0 (Ce pg (.slice 32 (.tmp 0) (some (.tmp 1)) none none) 32 [c,Aa (IntKind.wrap .i64 (a+b))] (Cy m (A3 c++(A3 (Aa (IntKind.wrap .i64 (a+b)))++([])))) 103) fun l d21=>
H0 (Ce pg (.slice 32 (.tmp 0) (some (.tmp 1)) none none) 32 [c,Aa a] (Cy (Ad m d21) (A3 c++(A3 (Aa a)++([])))) 106) fun n d22=>
H0 (Ce pg (.call ⟨.builtin .copy,#[.tmp 0,.tmp 1],#[32,32]⟩) 3 [l,n] (Cy (Ad (Ad m d21) d22) (A3 l++(A3 n++([])))) 107) fun ad d23=>
Ag ad fun ao=>
Ic (E3 [0,0,0,6,15,0,0,96,255] [⟨[],[]⟩,⟨[],[]⟩,⟨[],[]⟩,⟨[],[]⟩,⟨d21,A3 c++(A3 (Aa (IntKind.wrap .i64 (a+b)))++([]))⟩,⟨[],[]⟩,⟨[],[]⟩,⟨d22,A3 c++(A3 (Aa a)++([]))⟩,⟨d23,A3 l++(A3 n++([]))⟩]) (A4 (Ce pg (.slice 32 (.tmp 0) (some (.tmp 1)) none none) 32 [c,Aa a] (Al (Ad (Ad (Ad m d21) d22) d23)) 110) fun ae=>
Hi (Ce pg (.call ⟨.builtin .copy,#[.tmp 0,.tmp 1],#[32,31]⟩) 3 [ae,e] (Al (Ad (Ad (Ad m d21) d22) d23)) 112) (Ad (Ad (Ad m d21) d22) d23) fun af ag=>
Ag af fun ap=>
As R ag [some c])) else (
A4 (Ce pg (.slice 32 (.tmp 0) (some (.tmp 1)) none none) 32 [c,Aa f] (Al m) 101) fun ah=>
Hi (Ce pg (.call ⟨.builtin .copy,#[.tmp 0,.tmp 1],#[32,31]⟩) 3 [ah,e] (Al m) 103) m fun ai o=>
Ag ai fun aq=>
A4 (Ce pg (.slice 32 (.tmp 0) (some (.tmp 1)) none none) 32 [c,Aa a] (Al o) 106) fun aj=>
C1 pg KK.gl o 108 259 [aj,Aa b] fun ak al=>
Rr ak<|
As R al [some c]))))
theorem eY (a:AV) (b:Int) (c:AV) (m:Mem) (R:AV→Mem→Prop) (h:Zn a b c m R):Pb pg KK.gl m 1 194 [a,Aa b,c] R:=P0 Re Tryz.func194 (code:=((Tryz.f194).body).getD .skip) B7 B7 B7 (X:=Zn a b c m R) B7 h
noncomputable def Y6 (d:AV) (a:Int) (e:AV) (m:Mem) (R:AV→Mem→Prop):Prop:=
A4 (Ce pg (.slice 32 (.tmp 0) (some (.tmp 1)) none none) 32 [d,Aa a] (Al m) 5) fun v0=>
A4 (Da e) fun p=>
Ag p fun b=>
bif (b==(0)) then (
As R m [some d]) else (
A4 (Da d) fun q=>
Ag q fun f=>
bif (a==f) then (
Hi (app (Al m) 135 6 48 [Aa (0),Aa (0),Aa (0),Aa (0),Aa (0),Aa (0)] 19 d e) m fun r s=>
As R s [some r]) else (
A4 (Ce pg (.call ⟨.builtin .cap,#[.tmp 0],#[32]⟩) 3 [d] (Al m) 21) fun t=>
Ag t fun u=>
bif (decide ((IntKind.wrap .i64 (f+b))>u)) then (
A4 (Ce pg (.slice 32 (.tmp 0) none (some (.tmp 1)) none) 32 [d,Aa a] (Al m) 25) fun v=>
Hi (Ce pg (.call ⟨.builtin .append,#[.tmp 0,.tmp 1],#[32,3]⟩) 32 [v,Aa (IntKind.wrap .i64 ((IntKind.wrap .i64 (f+b))-a))] (Al m) 31) m fun g i=>
A4 (Ce pg (.slice 32 (.tmp 0) (some (.tmp 1)) none none) 32 [g,Aa a] (Al i) 35) fun w=>
Hi (Ce pg (.call ⟨.builtin .copy,#[.tmp 0,.tmp 1],#[32,31]⟩) 3 [w,e] (Al i) 37) i fun x h=>
Ag x fun am=>
H0 (Ce pg (.slice 32 (.tmp 0) (some (.tmp 1)) none none) 32 [g,Aa (IntKind.wrap .i64 (a+b))] (Cy h (A3 g++(A3 (Aa (IntKind.wrap .i64 (a+b)))++([])))) 42) fun j d13=>
H0 (Ce pg (.slice 32 (.tmp 0) (some (.tmp 1)) none none) 32 [d,Aa a] (Cy (Ad h d13) (A3 d++(A3 (Aa a)++([])))) 45) fun k d14=>
H0 (Ce pg (.call ⟨.builtin .copy,#[.tmp 0,.tmp 1],#[32,32]⟩) 3 [j,k] (Cy (Ad (Ad h d13) d14) (A3 j++(A3 k++([])))) 46) fun y d15=>
Ag y fun an=>
Ic (E3 [0,0,0,6,15,0,0,96,255] [⟨[],[]⟩,⟨[],[]⟩,⟨[],[]⟩,⟨[],[]⟩,⟨d13,A3 g++(A3 (Aa (IntKind.wrap .i64 (a+b)))++([]))⟩,⟨[],[]⟩,⟨[],[]⟩,⟨d14,A3 d++(A3 (Aa a)++([]))⟩,⟨d15,A3 j++(A3 k++([]))⟩]) (As R (Ad (Ad (Ad h d13) d14) d15) [some g])) else (
A4 (Ce pg (.slice 32 (.tmp 0) none (some (.tmp 1)) none) 32 [d,Aa (IntKind.wrap .i64 (f+b))] (Al m) 27) fun c=>
A4 (Ce pg (.slice 32 (.tmp 0) (some (.tmp 1)) none none) 32 [c,Aa (IntKind.wrap .i64 (a+b))] (Al m) 34) fun z=>
A2 pg KK.gl m 258 [e,z] fun aa=>
Ha aa fun ab=>
bif (!ab) then (
H0 (Ce pg (.slice 32 (.tmp 0) (some (.tmp 1)) none none) 32 [c,Aa (IntKind.wrap .i64 (a+b))] (Cy m (A3 c++(A3 (Aa (IntKind.wrap .i64 (a+b)))++([])))) 104) fun l d21=>
H0 (Ce pg (.slice 32 (.tmp 0) (some (.tmp 1)) none none) 32 [c,Aa a] (Cy (Ad m d21) (A3 c++(A3 (Aa a)++([])))) 107) fun n d22=>
H0 (Ce pg (.call ⟨.builtin .copy,#[.tmp 0,.tmp 1],#[32,32]⟩) 3 [l,n] (Cy (Ad (Ad m d21) d22) (A3 l++(A3 n++([])))) 108) fun ad d23=>
Ag ad fun ao=>
Ic (E3 [0,0,0,6,15,0,0,96,255] [⟨[],[]⟩,⟨[],[]⟩,⟨[],[]⟩,⟨[],[]⟩,⟨d21,A3 c++(A3 (Aa (IntKind.wrap .i64 (a+b)))++([]))⟩,⟨[],[]⟩,⟨[],[]⟩,⟨d22,A3 c++(A3 (Aa a)++([]))⟩,⟨d23,A3 l++(A3 n++([]))⟩]) (A4 (Ce pg (.slice 32 (.tmp 0) (some (.tmp 1)) none none) 32 [c,Aa a] (Al (Ad (Ad (Ad m d21) d22) d23)) 111) fun ae=>
Hi (Ce pg (.call ⟨.builtin .copy,#[.tmp 0,.tmp 1],#[32,31]⟩) 3 [ae,e] (Al (Ad (Ad (Ad m d21) d22) d23)) 113) (Ad (Ad (Ad m d21) d22) d23) fun af ag=>
Ag af fun ap=>
As R ag [some c])) else (
A4 (Ce pg (.slice 32 (.tmp 0) (some (.tmp 1)) none none) 32 [c,Aa f] (Al m) 102) fun ah=>
Hi (Ce pg (.call ⟨.builtin .copy,#[.tmp 0,.tmp 1],#[32,31]⟩) 3 [ah,e] (Al m) 104) m fun ai o=>
Ag ai fun aq=>
A4 (Ce pg (.slice 32 (.tmp 0) (some (.tmp 1)) none none) 32 [c,Aa a] (Al o) 107) fun aj=>
C1 pg KK.gl o 109 259 [aj,Aa b] fun ak al=>
Rr ak<|
As R al [some c]))))
theorem eU (a:AV) (b:Int) (c:AV) (m:Mem) (R:AV→Mem→Prop) (h:Y6 a b c m R):Pb pg KK.gl m 2 194 [a,Aa b,c] R:=P0 Re Tryz.func194 (code:=((Tryz.f194).body).getD .skip) B7 B7 B7 (X:=Y6 a b c m R) B7 h
end Go.Proofs.YtkdodbfnocdkdaaGreatDoor
