/- A part. -/
import Derived.Test.YtmhnnmfcjdnlhaaGreatDoorX1T
set_option linter.unusedVariables false
set_option maxRecDepth 100000
set_option maxHeartbeats 4000000
namespace Go.Proofs.YtmhnnmfcjdnlhaaGreatDoor
noncomputable def c8:Code:=((Tryz.f8).body).getD .skip
noncomputable def q8 (R:AV→Mem→Prop):Bh→St→Prop:=C8 pg Tryz.f8 R
noncomputable def oS:Code:=Ey c8 0
noncomputable def uW (R:AV→Mem→Prop):Bh→St→Prop:=Ew pg KK 108 0 c8 0 (q8 R)
noncomputable def Adt (R:AV→Mem→Prop) (N0:St→Prop):Bh→St→Prop:=Ex N0 (uW R)
def gU (a:Int) (b:AV) (c:Int) (d:AV) (e f:Int) (m:Mem):St:=⟨[(2,(Aa a)),(5,(AV.ptr 0 0)),(6,(AV.ptr 1 0)),(8,(AV.ptr 2 0)),(9,(AV.ptr 3 0)),(10,b),(11,(Aa c)),(27,d),(28,(Aa e)),(29,(Aa f))],m,100000⟩
noncomputable def xA:Code:=Ey c8 1
noncomputable def sG (R:AV→Mem→Prop):Bh→St→Prop:=Ew pg KK 108 0 c8 1 (q8 R)
noncomputable def Afa (R:AV→Mem→Prop) (N0:St→Prop):Bh→St→Prop:=Ex N0 (sG R)
def gT (a:Int) (b:AV) (c d:Int) (e:AV) (f g:Int) (m:Mem):St:=⟨[(2,(Aa a)),(5,(AV.ptr 0 0)),(10,b),(11,(Aa c)),(15,(AV.ptr 100070 0)),(16,(Aa d)),(17,(AV.ptr 100081 0)),(54,e),(55,(Aa f)),(56,(Aa g))],m,200000⟩
noncomputable def qB (l:Int) (o:AV) (p:Int) (n:AV) (j h:Int) (m:Mem) (R:AV→Mem→Prop) (N0:St→Prop):Prop:=
bif (decide (h<j)) then (
Bo (Eb 1 n (Aa h)) fun q=>
Bo (Fm (Am m) q) fun k=>
Jt (some k) (some []) fun f5 s=>bif KK.pm f5 then Bd pg KK.gl m f5 s (fun r=>
Af r fun a=>
bif (a !=(0)) then (
A2 R m [some AV.B1,some (Aa a)]) else (
N0 ⟨[(2,(Aa l)),(5,(AV.ptr 0 0)),(6,(AV.ptr 1 0)),(8,(AV.ptr 2 0)),(9,(AV.ptr 3 0)),(10,o),(11,(Aa p)),(27,n),(28,(Aa j)),(29,(Aa (IntKind.wrap .i64 (h+(1))))),(30,(Ah (decide (h<j)))),(31,q),(32,k),(13,k),(33,k),(34,(Aa a)),(14,(Aa a)),(35,(Aa a)),(36,(Ah (a !=(0)))),(38,(Aa (IntKind.wrap .i64 (h+(1)))))],m,100074⟩)) else Ez pg KK.gl m 100005 f5 s fun r t=>
Af r fun a=>
bif (a !=(0)) then (
A2 R t [some AV.B1,some (Aa a)]) else (
N0 ⟨[(2,(Aa l)),(5,(AV.ptr 0 0)),(6,(AV.ptr 1 0)),(8,(AV.ptr 2 0)),(9,(AV.ptr 3 0)),(10,o),(11,(Aa p)),(27,n),(28,(Aa j)),(29,(Aa (IntKind.wrap .i64 (h+(1))))),(30,(Ah (decide (h<j)))),(31,q),(32,k),(13,k),(33,k),(34,(Aa a)),(14,(Aa a)),(35,(Aa a)),(36,(Ah (a !=(0)))),(38,(Aa (IntKind.wrap .i64 (h+(1)))))],t,100074⟩)) else (
Bo (Fm (Am m) (AV.ptr 0 0)) fun u=>
Bd pg KK.gl m 21 [u,Aa l] fun v8=>
Fs v8 fun c9 K5=>
Ji c9 fun aj ak al am an ao=>
Af aj fun b=>
Af ak fun c=>
Af al fun d=>
Af am fun e=>
Af an fun f=>
Af ao fun g=>
Af K5 fun i=>
bif (i !=(0)) then (
A2 R ((100070,some ⟨[Aa b,Aa c,Aa d,Aa e,Aa f,Aa g],47⟩)::(100070,some ⟨[Aa (0),Aa (0),Aa (0),Aa (0),Aa (0),Aa (0)],47⟩)::m) [some AV.B1,some (Aa i)]) else (
Bo (Iv (Am ((100070,some ⟨[Aa b,Aa c,Aa d,Aa e,Aa f,Aa g],47⟩)::(100070,some ⟨[Aa (0),Aa (0),Aa (0),Aa (0),Aa (0),Aa (0)],47⟩)::m)) 4 (AV.ptr 1 0)) fun ap=>
Sy ap fun Pn Si S6 Qh=>
Em Pn fun s29=>
Af Si fun v=>
Af S6 fun w=>
Em Qh fun s32=>
Bo (Iv (Am ((100070,some ⟨[Aa b,Aa c,Aa d,Aa e,Aa f,Aa g],47⟩)::(100070,some ⟨[Aa (0),Aa (0),Aa (0),Aa (0),Aa (0),Aa (0)],47⟩)::m)) 7 (AV.ptr 2 0)) fun aq=>
nH aq fun yH tP c36 cX c38 c39 zE=>
Em yH fun s41=>
Af tP fun x=>
Af c36 fun y=>
Af cX fun z=>
Af c38 fun aa=>
Af c39 fun ab=>
Af zE fun ad=>
Bo (Iv (Am ((100070,some ⟨[Aa b,Aa c,Aa d,Aa e,Aa f,Aa g],47⟩)::(100070,some ⟨[Aa (0),Aa (0),Aa (0),Aa (0),Aa (0),Aa (0)],47⟩)::m)) 2 (AV.ptr 3 0)) fun ar=>
I3 ar fun c49 zA=>
Af c49 fun ae=>
Af zA fun af=>
Bo (Fm (Am ((100070,some ⟨[Aa b,Aa c,Aa d,Aa e,Aa f,Aa g],47⟩)::(100070,some ⟨[Aa (0),Aa (0),Aa (0),Aa (0),Aa (0),Aa (0)],47⟩)::m)) (AV.ptr 0 0)) fun ag=>
Bo (N8 [AV.sc (.string ⟨#[]⟩),Aa (0),Aa (0),AV.sc (.string ⟨#[]⟩),AV.B1,AV.B1,Aa (0),Aa (0),Aa (0),Aa (0),Aa (0),Aa (0),AV.sc (.string ⟨#[]⟩),Aa (0),Aa (0),Aa (0),Aa (0),Aa (0),Aa (0),Aa (0),Aa (0),AV.B1] [(0,4),(4,1),(5,1),(6,6),(12,7),(19,2),(21,1)] [(0,(AV.agg [AV.sc (.string s29),Aa v,Aa w,AV.sc (.string s32)])),(3,(AV.agg [Aa b,Aa c,Aa d,Aa e,Aa f,Aa g])),(4,(AV.agg [AV.sc (.string s41),Aa x,Aa y,Aa z,Aa aa,Aa ab,Aa ad])),(5,(AV.agg [Aa ae,Aa af])),(6,ag)]) fun ah=>
Cw pg (Am ((100081,some ⟨[AV.sc (.string ⟨#[]⟩),Aa (0),Aa (0),AV.sc (.string ⟨#[]⟩),AV.B1,AV.B1,Aa (0),Aa (0),Aa (0),Aa (0),Aa (0),Aa (0),AV.sc (.string ⟨#[]⟩),Aa (0),Aa (0),Aa (0),Aa (0),Aa (0),Aa (0),Aa (0),Aa (0),AV.B1],72⟩)::(100070,some ⟨[Aa b,Aa c,Aa d,Aa e,Aa f,Aa g],47⟩)::(100070,some ⟨[Aa (0),Aa (0),Aa (0),Aa (0),Aa (0),Aa (0)],47⟩)::m)) 72 (AV.ptr 100081 0) ah fun aw d55=>
Bo (Fm (Am (Ag ((100081,some ⟨[AV.sc (.string ⟨#[]⟩),Aa (0),Aa (0),AV.sc (.string ⟨#[]⟩),AV.B1,AV.B1,Aa (0),Aa (0),Aa (0),Aa (0),Aa (0),Aa (0),AV.sc (.string ⟨#[]⟩),Aa (0),Aa (0),Aa (0),Aa (0),Aa (0),Aa (0),Aa (0),Aa (0),AV.B1],72⟩)::(100070,some ⟨[Aa b,Aa c,Aa d,Aa e,Aa f,Aa g],47⟩)::(100070,some ⟨[Aa (0),Aa (0),Aa (0),Aa (0),Aa (0),Aa (0)],47⟩)::m) d55)) (AV.ptr 0 0)) fun ai=>
Bo (Ed ai) fun au=>
Af au fun av=>
C6 pg KK 108 0 (.loop xA) ⟨[(2,(Aa l)),(5,(AV.ptr 0 0)),(6,(AV.ptr 1 0)),(8,(AV.ptr 2 0)),(9,(AV.ptr 3 0)),(10,o),(11,(Aa p)),(27,n),(28,(Aa j)),(29,(Aa h)),(30,(Ah (decide (h<j)))),(40,u),(41,(Aa l)),(42,(AV.B4 [AV.agg [Aa b,Aa c,Aa d,Aa e,Aa f,Aa g],Aa i])),(39,(AV.B4 [AV.agg [Aa b,Aa c,Aa d,Aa e,Aa f,Aa g],Aa i])),(43,(AV.agg [Aa b,Aa c,Aa d,Aa e,Aa f,Aa g])),(44,(Aa i)),(15,(AV.ptr 100070 0)),(16,(Aa i)),(45,(Aa i)),(46,(Ah (i !=(0)))),(48,(AV.agg [AV.sc (.string s29),Aa v,Aa w,AV.sc (.string s32)])),(49,(AV.agg [Aa b,Aa c,Aa d,Aa e,Aa f,Aa g])),(50,(AV.agg [AV.sc (.string s41),Aa x,Aa y,Aa z,Aa aa,Aa ab,Aa ad])),(51,(AV.agg [Aa ae,Aa af])),(52,ag),(53,ah),(17,(AV.ptr 100081 0)),(54,ai),(55,(Aa av)),(56,(Aa (0)))],Ag ((100081,some ⟨[AV.sc (.string ⟨#[]⟩),Aa (0),Aa (0),AV.sc (.string ⟨#[]⟩),AV.B1,AV.B1,Aa (0),Aa (0),Aa (0),Aa (0),Aa (0),Aa (0),AV.sc (.string ⟨#[]⟩),Aa (0),Aa (0),Aa (0),Aa (0),Aa (0),Aa (0),Aa (0),Aa (0),AV.B1],72⟩)::(100070,some ⟨[Aa b,Aa c,Aa d,Aa e,Aa f,Aa g],47⟩)::(100070,some ⟨[Aa (0),Aa (0),Aa (0),Aa (0),Aa (0),Aa (0)],47⟩)::m) d55,100086⟩ (sG R)))
theorem sJ (a:Int) (b:AV) (c:Int) (d:AV) (e f:Int) (m:Mem) (R:AV→Mem→Prop) (N0:St→Prop):W pg KK 108 0 oS (gU a b c d e f m) (Adt R N0)=qB a b c d e f m R N0:=by kernel_rfl
theorem Afl (R:AV→Mem→Prop) {σ:Type} (I:σ→Prop) (a:σ→Int) (b:σ→AV) (c:σ→Int) (d:σ→AV) (e f:σ→Int) (m:σ→Mem) (μ:σ→Nat) (step:∀x,I x→qB (a x) (b x) (c x) (d x) (e x) (f x) (m x) R (fun s'=>∃y,I y∧μ y<μ x∧Cl KK 108 0 s' (gU (a y) (b y) (c y) (d y) (e y) (f y) (m y)))) (x:σ) (hx:I x) {s:St} (hw:Cl KK 108 0 s (gU (a x) (b x) (c x) (d x) (e x) (f x) (m x))):C6 pg KK 108 0 (.loop oS) s (uW R):=
 C6.He hw (C6.loops Ee I (fun x=>gU (a x) (b x) (c x) (d x) (e x) (f x) (m x)) μ (fun x hx=>(sJ (a x) (b x) (c x) (d x) (e x) (f x) (m x) R _).mpr (step x hx)) x hx)
noncomputable def vT (b:Int) (p:AV) (q r:Int) (l:AV) (i c:Int) (m:Mem) (R:AV→Mem→Prop) (N0:St→Prop):Prop:=
bif (decide (c<i)) then (
Bo (Eb 6 l (Aa c)) fun n=>
Bo (Iv (Am m) 6 n) fun aq=>
Ji aq fun c61 c62 tM c64 ar c66=>
Af c61 fun a=>
Af c62 fun d=>
Af tM fun e=>
Af c64 fun f=>
Af ar fun g=>
Af c66 fun h=>
bif (decide (a<b)) then (
Bo (Fm (Am ((200003,some ⟨[Aa a,Aa d,Aa e,Aa f,Aa g,Aa h],47⟩)::(200003,some ⟨[Aa (0),Aa (0),Aa (0),Aa (0),Aa (0),Aa (0)],47⟩)::m)) (AV.ptr 100081 4)) fun s=>
Il (Vu 200013 47 6 1 [Aa (0),Aa (0),Aa (0),Aa (0),Aa (0),Aa (0)] [(0,(AV.agg [Aa a,Aa d,Aa e,Aa f,Aa g,Aa h]))]) ((200003,some ⟨[Aa a,Aa d,Aa e,Aa f,Aa g,Aa h],47⟩)::(200003,some ⟨[Aa (0),Aa (0),Aa (0),Aa (0),Aa (0),Aa (0)],47⟩)::m) fun t v=>
Il (app (Am v) 47 6 48 [Aa (0),Aa (0),Aa (0),Aa (0),Aa (0),Aa (0)] 200014 s t) v fun u j=>
Cw pg (Am j) 32 (AV.ptr 100081 4) u fun dm d76=>
Bo (Fm (Am (Ag j d76)) (AV.ptr 200003 0)) fun au=>
Af au fun o=>
bif (decide (o>b)) then (
Bo (Fm (Am (Ag j d76)) (AV.ptr 100081 5)) fun w=>
Bo (Iv (Am (Ag j d76)) 6 (AV.ptr 200003 0)) fun av=>
Ji av fun c81 c82 c83 W3 c85 aw=>
Af c81 fun x=>
Af c82 fun y=>
Af c83 fun z=>
Af W3 fun aa=>
Af c85 fun ab=>
Af aw fun ad=>
Il (Vu 200025 47 6 1 [Aa (0),Aa (0),Aa (0),Aa (0),Aa (0),Aa (0)] [(0,(AV.agg [Aa x,Aa y,Aa z,Aa aa,Aa ab,Aa ad]))]) (Ag j d76) fun ae af=>
Il (app (Am af) 47 6 48 [Aa (0),Aa (0),Aa (0),Aa (0),Aa (0),Aa (0)] 200026 w ae) af fun ag ah=>
Cw pg (Am ah) 32 (AV.ptr 100081 5) ag fun dn d95=>
N0 ⟨[(2,(Aa b)),(5,(AV.ptr 0 0)),(10,p),(11,(Aa q)),(15,(AV.ptr 100070 0)),(16,(Aa r)),(17,(AV.ptr 100081 0)),(54,l),(55,(Aa i)),(56,(Aa (IntKind.wrap .i64 (c+(1))))),(57,(Ah (decide (c<i)))),(58,n),(59,(AV.agg [Aa a,Aa d,Aa e,Aa f,Aa g,Aa h])),(19,(AV.ptr 200003 0)),(60,(AV.ptr 200003 0)),(61,(AV.ptr 200003 0)),(62,(Aa a)),(63,(Aa b)),(64,(Ah (decide (a<b)))),(65,(AV.ptr 100081 4)),(66,s),(67,(AV.agg [Aa a,Aa d,Aa e,Aa f,Aa g,Aa h])),(68,t),(69,u),(70,(AV.ptr 100081 4)),(71,(AV.ptr 200003 0)),(72,(AV.ptr 200003 0)),(73,(Aa o)),(74,(Aa b)),(75,(Ah (decide (o>b)))),(76,(AV.ptr 100081 5)),(77,w),(78,(AV.agg [Aa x,Aa y,Aa z,Aa aa,Aa ab,Aa ad])),(79,ae),(80,ag),(81,(AV.ptr 100081 5)),(82,(Aa (IntKind.wrap .i64 (c+(1)))))],Ag ah d95,200031⟩) else (
N0 ⟨[(2,(Aa b)),(5,(AV.ptr 0 0)),(10,p),(11,(Aa q)),(15,(AV.ptr 100070 0)),(16,(Aa r)),(17,(AV.ptr 100081 0)),(54,l),(55,(Aa i)),(56,(Aa (IntKind.wrap .i64 (c+(1))))),(57,(Ah (decide (c<i)))),(58,n),(59,(AV.agg [Aa a,Aa d,Aa e,Aa f,Aa g,Aa h])),(19,(AV.ptr 200003 0)),(60,(AV.ptr 200003 0)),(61,(AV.ptr 200003 0)),(62,(Aa a)),(63,(Aa b)),(64,(Ah (decide (a<b)))),(65,(AV.ptr 100081 4)),(66,s),(67,(AV.agg [Aa a,Aa d,Aa e,Aa f,Aa g,Aa h])),(68,t),(69,u),(70,(AV.ptr 100081 4)),(71,(AV.ptr 200003 0)),(72,(AV.ptr 200003 0)),(73,(Aa o)),(74,(Aa b)),(75,(Ah (decide (o>b)))),(82,(Aa (IntKind.wrap .i64 (c+(1)))))],Ag j d76,200024⟩)) else (
bif (decide (a>b)) then (
Bo (Fm (Am ((200003,some ⟨[Aa a,Aa d,Aa e,Aa f,Aa g,Aa h],47⟩)::(200003,some ⟨[Aa (0),Aa (0),Aa (0),Aa (0),Aa (0),Aa (0)],47⟩)::m)) (AV.ptr 100081 5)) fun ai=>
Il (Vu 200018 47 6 1 [Aa (0),Aa (0),Aa (0),Aa (0),Aa (0),Aa (0)] [(0,(AV.agg [Aa a,Aa d,Aa e,Aa f,Aa g,Aa h]))]) ((200003,some ⟨[Aa a,Aa d,Aa e,Aa f,Aa g,Aa h],47⟩)::(200003,some ⟨[Aa (0),Aa (0),Aa (0),Aa (0),Aa (0),Aa (0)],47⟩)::m) fun aj ak=>
Il (app (Am ak) 47 6 48 [Aa (0),Aa (0),Aa (0),Aa (0),Aa (0),Aa (0)] 200019 ai aj) ak fun al am=>
Cw pg (Am am) 32 (AV.ptr 100081 5) al fun dp d99=>
N0 ⟨[(2,(Aa b)),(5,(AV.ptr 0 0)),(10,p),(11,(Aa q)),(15,(AV.ptr 100070 0)),(16,(Aa r)),(17,(AV.ptr 100081 0)),(54,l),(55,(Aa i)),(56,(Aa (IntKind.wrap .i64 (c+(1))))),(57,(Ah (decide (c<i)))),(58,n),(59,(AV.agg [Aa a,Aa d,Aa e,Aa f,Aa g,Aa h])),(19,(AV.ptr 200003 0)),(60,(AV.ptr 200003 0)),(61,(AV.ptr 200003 0)),(62,(Aa a)),(63,(Aa b)),(64,(Ah (decide (a<b)))),(71,(AV.ptr 200003 0)),(72,(AV.ptr 200003 0)),(73,(Aa a)),(74,(Aa b)),(75,(Ah (decide (a>b)))),(76,(AV.ptr 100081 5)),(77,ai),(78,(AV.agg [Aa a,Aa d,Aa e,Aa f,Aa g,Aa h])),(79,aj),(80,al),(81,(AV.ptr 100081 5)),(82,(Aa (IntKind.wrap .i64 (c+(1)))))],Ag am d99,200024⟩) else (
N0 ⟨[(2,(Aa b)),(5,(AV.ptr 0 0)),(10,p),(11,(Aa q)),(15,(AV.ptr 100070 0)),(16,(Aa r)),(17,(AV.ptr 100081 0)),(54,l),(55,(Aa i)),(56,(Aa (IntKind.wrap .i64 (c+(1))))),(57,(Ah (decide (c<i)))),(58,n),(59,(AV.agg [Aa a,Aa d,Aa e,Aa f,Aa g,Aa h])),(19,(AV.ptr 200003 0)),(60,(AV.ptr 200003 0)),(61,(AV.ptr 200003 0)),(62,(Aa a)),(63,(Aa b)),(64,(Ah (decide (a<b)))),(71,(AV.ptr 200003 0)),(72,(AV.ptr 200003 0)),(73,(Aa a)),(74,(Aa b)),(75,(Ah (decide (a>b)))),(82,(Aa (IntKind.wrap .i64 (c+(1)))))],((200003,some ⟨[Aa a,Aa d,Aa e,Aa f,Aa g,Aa h],47⟩)::(200003,some ⟨[Aa (0),Aa (0),Aa (0),Aa (0),Aa (0),Aa (0)],47⟩)::m),200017⟩))) else (
Bo (Iv (Am m) 22 (AV.ptr 100081 0)) fun ax=>
kI ax fun mH ay az ba jU bb zX bc bd be bf bg bh bi bj bk bl bm bn bo bp bq=>
Em mH fun s123=>
Af ay fun br=>
Af az fun bs=>
Em ba fun s126=>
Af zX fun bt=>
Af bc fun bu=>
Af bd fun bv=>
Af be fun bw=>
Af bf fun bz=>
Af bg fun ca=>
Em bh fun s133=>
Af bi fun cb=>
Af bj fun cc=>
Af bk fun cd=>
Af bl fun ce=>
Af bm fun cg=>
Af bn fun ch=>
Af bo fun ci=>
Af bp fun cj=>
Ez pg KK.gl m 200002 31 [AV.agg [AV.sc (.string s123),Aa br,Aa bs,AV.sc (.string s126),jU,bb,Aa bt,Aa bu,Aa bv,Aa bw,Aa bz,Aa ca,AV.sc (.string s133),Aa cb,Aa cc,Aa cd,Aa ce,Aa cg,Aa ch,Aa ci,Aa cj,bq]] fun ck k=>
tV ck fun cl cm cn=>
Hr cm fun co=>
Af cn fun an=>
bif (an !=(0)) then (
A2 R k [some AV.B1,some (Aa an)]) else (
bif co then (
Bo (Fm (Am k) (AV.ptr 0 0)) fun cp=>
Ez pg KK.gl k 200079 32 [cp] fun cq cr=>
A2 R cr [some cq,some (Aa (0))]) else (
Bo (Fm (Am k) (AV.ptr 100081 4)) fun cs=>
Bo (Iv (Am k) 6 (AV.ptr 100070 0)) fun ct=>
Ji ct fun cu cv cw cx cy cz=>
Af cu fun da=>
Af cv fun db=>
Af cw fun dc=>
Af cx fun dd=>
Af cy fun de=>
Af cz fun df=>
Il (Vu 200081 47 6 1 [Aa (0),Aa (0),Aa (0),Aa (0),Aa (0),Aa (0)] [(0,(AV.agg [Aa da,Aa db,Aa dc,Aa dd,Aa de,Aa df]))]) k fun dg dh=>
Il (Vu 200083 32 1 3 [AV.B1] [(0,cs),(1,dg),(2,cl)]) dh fun di dj=>
Ez pg KK.gl dj 200084 33 [di] fun ao ap=>
Bo (Ed ao) fun dk=>
Af dk fun dl=>
bif (decide (dl>(64))) then (
A2 R ap [some AV.B1,some (Aa (2))]) else (
A2 R ap [some ao,some (Aa (0))]))))
theorem uJ (a:Int) (b:AV) (c d:Int) (e:AV) (f g:Int) (m:Mem) (R:AV→Mem→Prop) (N0:St→Prop):W pg KK 108 0 xA (gT a b c d e f g m) (Afa R N0)=vT a b c d e f g m R N0:=by kernel_rfl
theorem Ahc (R:AV→Mem→Prop) {σ:Type} (I:σ→Prop) (a:σ→Int) (b:σ→AV) (c d:σ→Int) (e:σ→AV) (f g:σ→Int) (m:σ→Mem) (μ:σ→Nat) (step:∀x,I x→vT (a x) (b x) (c x) (d x) (e x) (f x) (g x) (m x) R (fun s'=>∃y,I y∧μ y<μ x∧Cl KK 108 0 s' (gT (a y) (b y) (c y) (d y) (e y) (f y) (g y) (m y)))) (x:σ) (hx:I x) {s:St} (hw:Cl KK 108 0 s (gT (a x) (b x) (c x) (d x) (e x) (f x) (g x) (m x))):C6 pg KK 108 0 (.loop xA) s (sG R):=
 C6.He hw (C6.loops Ee I (fun x=>gT (a x) (b x) (c x) (d x) (e x) (f x) (g x) (m x)) μ (fun x hx=>(uJ (a x) (b x) (c x) (d x) (e x) (f x) (g x) (m x) R _).mpr (step x hx)) x hx)
noncomputable def F8 (a:AV) (b:ByteArray) (c d:Int) (e:ByteArray) (p:Int) (f:ByteArray) (g h i j k l m n:Int) (R:AV→Mem→Prop):Prop:=
Jj (Cq a)<|Il (Cs pg (.buildSlice 70 4 #[(0,.tmp 0),(1,.tmp 1),(2,.tmp 2),(3,.tmp 3)]) 70 [AV.fn 26 [AV.ptr 0 0],AV.fn 27 [AV.ptr 1 0],AV.fn 28 [AV.ptr 2 0],AV.fn 29 [AV.ptr 3 0]] (Am ((3,some ⟨[Aa m,Aa n],42⟩)::(2,some ⟨[AV.sc (.string f),Aa g,Aa h,Aa i,Aa j,Aa k,Aa l],26⟩)::(1,some ⟨[AV.sc (.string b),Aa c,Aa d,AV.sc (.string e)],30⟩)::(0,some ⟨[a],32⟩)::[])) 10) ((3,some ⟨[Aa m,Aa n],42⟩)::(2,some ⟨[AV.sc (.string f),Aa g,Aa h,Aa i,Aa j,Aa k,Aa l],26⟩)::(1,some ⟨[AV.sc (.string b),Aa c,Aa d,AV.sc (.string e)],30⟩)::(0,some ⟨[a],32⟩)::[]) fun o q=>
Bo (Ed o) fun r=>
Af r fun s=>
C6 pg KK 108 0 (.loop oS) ⟨[(0,a),(1,(AV.agg [AV.sc (.string b),Aa c,Aa d,AV.sc (.string e)])),(2,(Aa p)),(3,(AV.agg [AV.sc (.string f),Aa g,Aa h,Aa i,Aa j,Aa k,Aa l])),(4,(AV.agg [Aa m,Aa n])),(5,(AV.ptr 0 0)),(6,(AV.ptr 1 0)),(8,(AV.ptr 2 0)),(9,(AV.ptr 3 0)),(10,AV.B1),(11,(Aa (0))),(23,(AV.fn 26 [AV.ptr 0 0])),(24,(AV.fn 27 [AV.ptr 1 0])),(25,(AV.fn 28 [AV.ptr 2 0])),(26,(AV.fn 29 [AV.ptr 3 0])),(27,o),(28,(Aa s)),(29,(Aa (0)))],q,13⟩ (uW R)
theorem zH (a:AV) (b:ByteArray) (c d:Int) (e:ByteArray) (f:Int) (g:ByteArray) (i j k l m n o p:Int) (R:AV→Mem→Prop) (h:F8 a b c d e f g i j k l m n o p R):Own pg KK.gl 8 [a,AV.agg [AV.sc (.string b),Aa c,Aa d,AV.sc (.string e)],Aa f,AV.agg [AV.sc (.string g),Aa i,Aa j,Aa k,Aa l,Aa m,Aa n],AV.agg [Aa o,Aa p]] R:=Bk Ee Tryz.func8 (code:=c8) Bi Bi Bi (X:=F8 a b c d e f g i j k l m n o p R) Bi h
noncomputable def c6:Code:=((Tryz.f6).body).getD .skip
noncomputable def q6 (R:AV→Mem→Prop):Bh→St→Prop:=C8 pg Tryz.f6 R
noncomputable def rN:Code:=Ey c6 0
noncomputable def wB (R:AV→Mem→Prop):Bh→St→Prop:=Ew pg KK 87 0 c6 0 (q6 R)
noncomputable def Adg (R:AV→Mem→Prop) (N0:St→Prop):Bh→St→Prop:=Ex N0 (wB R)
def iM (a:AV) (b c:Int) (d:AV) (e:Int) (f:AV) (g h:Int) (m:Mem):St:=⟨[(0,a),(1,(Aa b)),(4,(Aa c)),(8,(AV.ptr 0 0)),(11,(AV.ptr 1 0)),(12,(AV.ptr 2 0)),(13,d),(14,(Aa e)),(15,(AV.ptr 6 0)),(56,f),(57,(Aa g)),(58,(Aa h))],m,100000⟩
noncomputable def xD (f:AV) (g h:Int) (w:AV) (x:Int) (j:AV) (i e:Int) (m:Mem) (R:AV→Mem→Prop) (N0:St→Prop):Prop:=
bif (decide (e<i)) then (
Bo (Eb 4 j (Aa e)) fun k=>
Bo (Iv (Am m) 4 k) fun aa=>
Sy aa fun ab ad c75 c76=>
Em ab fun s77=>
Af ad fun a=>
Af c75 fun b=>
Em c76 fun s80=>
Bo (Eb 1 f (Aa g)) fun l=>
Bo (Fm (Am ((100003,some ⟨[AV.sc (.string s77),Aa a,Aa b,AV.sc (.string s80)],30⟩)::(100003,some ⟨[AV.sc (.string ⟨#[]⟩),Aa (0),Aa (0),AV.sc (.string ⟨#[]⟩)],30⟩)::m)) l) fun n=>
Bo (Iv (Am ((100003,some ⟨[AV.sc (.string s77),Aa a,Aa b,AV.sc (.string s80)],30⟩)::(100003,some ⟨[AV.sc (.string ⟨#[]⟩),Aa (0),Aa (0),AV.sc (.string ⟨#[]⟩)],30⟩)::m)) 7 (AV.ptr 1 0)) fun ae=>
nH ae fun W3 c85 af c87 yW c89 c90=>
Em W3 fun s91=>
Af c85 fun o=>
Af af fun p=>
Af c87 fun q=>
Af yW fun r=>
Af c89 fun s=>
Af c90 fun t=>
Bo (N8 [Aa (0),Aa (0)] [(0,1),(1,1)] []) fun u=>
Bd pg KK.gl ((100003,some ⟨[AV.sc (.string s77),Aa a,Aa b,AV.sc (.string s80)],30⟩)::(100003,some ⟨[AV.sc (.string ⟨#[]⟩),Aa (0),Aa (0),AV.sc (.string ⟨#[]⟩)],30⟩)::m) 8 [n,AV.agg [AV.sc (.string s77),Aa a,Aa b,AV.sc (.string s80)],Aa h,AV.agg [AV.sc (.string s91),Aa o,Aa p,Aa q,Aa r,Aa s,Aa t],u] fun ag=>
Fs ag fun d mH=>
Af mH fun c=>
bif (c==(0)) then (
Bo (Iv (Am ((100003,some ⟨[AV.sc (.string s77),Aa a,Aa b,AV.sc (.string s80)],30⟩)::(100003,some ⟨[AV.sc (.string ⟨#[]⟩),Aa (0),Aa (0),AV.sc (.string ⟨#[]⟩)],30⟩)::m)) 2 (AV.ptr 0 0)) fun ah=>
I3 ah fun ai jU=>
Af ai fun y=>
Af jU fun z=>
Bd pg KK.gl ((100003,some ⟨[AV.sc (.string s77),Aa a,Aa b,AV.sc (.string s80)],30⟩)::(100003,some ⟨[AV.sc (.string ⟨#[]⟩),Aa (0),Aa (0),AV.sc (.string ⟨#[]⟩)],30⟩)::m) 19 [f,Aa g,d,AV.agg [Aa y,Aa z]] fun aj=>
Hr aj fun v=>
bif v then (
Cw pg (Am ((100003,some ⟨[AV.sc (.string s77),Aa a,Aa b,AV.sc (.string s80)],30⟩)::(100003,some ⟨[AV.sc (.string ⟨#[]⟩),Aa (0),Aa (0),AV.sc (.string ⟨#[]⟩)],30⟩)::m)) 30 (AV.ptr 2 0) (AV.agg [AV.sc (.string s77),Aa a,Aa b,AV.sc (.string s80)]) fun ar d110=>
A2 R (Ag ((100003,some ⟨[AV.sc (.string s77),Aa a,Aa b,AV.sc (.string s80)],30⟩)::(100003,some ⟨[AV.sc (.string ⟨#[]⟩),Aa (0),Aa (0),AV.sc (.string ⟨#[]⟩)],30⟩)::m) d110) [(Fq pg (Am (Ag ((100003,some ⟨[AV.sc (.string s77),Aa a,Aa b,AV.sc (.string s80)],30⟩)::(100003,some ⟨[AV.sc (.string ⟨#[]⟩),Aa (0),Aa (0),AV.sc (.string ⟨#[]⟩)],30⟩)::m) d110)) 30 (AV.ptr 2 0)).map (·.1),some d,some (Aa (0))]) else (
N0 ⟨[(0,f),(1,(Aa g)),(4,(Aa h)),(8,(AV.ptr 0 0)),(11,(AV.ptr 1 0)),(12,(AV.ptr 2 0)),(13,w),(14,(Aa x)),(15,(AV.ptr 6 0)),(56,j),(57,(Aa i)),(58,(Aa (IntKind.wrap .i64 (e+(1))))),(59,(Ah (decide (e<i)))),(60,k),(61,(AV.agg [AV.sc (.string s77),Aa a,Aa b,AV.sc (.string s80)])),(20,(AV.ptr 100003 0)),(63,f),(64,(Aa g)),(65,l),(66,n),(67,(AV.agg [AV.sc (.string s77),Aa a,Aa b,AV.sc (.string s80)])),(68,(Aa h)),(69,(AV.agg [AV.sc (.string s91),Aa o,Aa p,Aa q,Aa r,Aa s,Aa t])),(70,u),(71,(AV.B4 [d,Aa c])),(62,(AV.B4 [d,Aa c])),(72,d),(73,(Aa c)),(21,d),(22,(Aa c)),(74,(Aa c)),(75,(Ah (c==(0)))),(76,(Ah true)),(77,f),(78,(Aa g)),(79,d),(80,(AV.agg [Aa y,Aa z])),(81,(Ah v)),(82,(Ah v)),(85,(Aa (IntKind.wrap .i64 (e+(1)))))],((100003,some ⟨[AV.sc (.string s77),Aa a,Aa b,AV.sc (.string s80)],30⟩)::(100003,some ⟨[AV.sc (.string ⟨#[]⟩),Aa (0),Aa (0),AV.sc (.string ⟨#[]⟩)],30⟩)::m),100093⟩)) else (
N0 ⟨[(0,f),(1,(Aa g)),(4,(Aa h)),(8,(AV.ptr 0 0)),(11,(AV.ptr 1 0)),(12,(AV.ptr 2 0)),(13,w),(14,(Aa x)),(15,(AV.ptr 6 0)),(56,j),(57,(Aa i)),(58,(Aa (IntKind.wrap .i64 (e+(1))))),(59,(Ah (decide (e<i)))),(60,k),(61,(AV.agg [AV.sc (.string s77),Aa a,Aa b,AV.sc (.string s80)])),(20,(AV.ptr 100003 0)),(63,f),(64,(Aa g)),(65,l),(66,n),(67,(AV.agg [AV.sc (.string s77),Aa a,Aa b,AV.sc (.string s80)])),(68,(Aa h)),(69,(AV.agg [AV.sc (.string s91),Aa o,Aa p,Aa q,Aa r,Aa s,Aa t])),(70,u),(71,(AV.B4 [d,Aa c])),(62,(AV.B4 [d,Aa c])),(72,d),(73,(Aa c)),(21,d),(22,(Aa c)),(74,(Aa c)),(75,(Ah (c==(0)))),(76,(Ah false)),(77,(AV.B4 [])),(78,(AV.B4 [])),(79,(AV.B4 [])),(80,(AV.B4 [])),(81,(AV.B4 [])),(82,(Ah false)),(85,(Aa (IntKind.wrap .i64 (e+(1)))))],((100003,some ⟨[AV.sc (.string s77),Aa a,Aa b,AV.sc (.string s80)],30⟩)::(100003,some ⟨[AV.sc (.string ⟨#[]⟩),Aa (0),Aa (0),AV.sc (.string ⟨#[]⟩)],30⟩)::m),100025⟩)) else (
Bo (Iv (Am m) 4 (AV.ptr 6 0)) fun ak=>
Sy ak fun al am an ao=>
Em al fun s116=>
Af am fun ap=>
Af an fun aq=>
Em ao fun s119=>
Cw pg (Am m) 30 (AV.ptr 2 0) (AV.agg [AV.sc (.string s116),Aa ap,Aa aq,AV.sc (.string s119)]) fun au d120=>
A2 R (Ag m d120) [(Fq pg (Am (Ag m d120)) 30 (AV.ptr 2 0)).map (·.1),some AV.B1,some (Aa (8))])
theorem pS (a:AV) (b c:Int) (d:AV) (e:Int) (f:AV) (g h:Int) (m:Mem) (R:AV→Mem→Prop) (N0:St→Prop):W pg KK 87 0 rN (iM a b c d e f g h m) (Adg R N0)=xD a b c d e f g h m R N0:=by kernel_rfl
theorem Afi (R:AV→Mem→Prop) {σ:Type} (I:σ→Prop) (a:σ→AV) (b c:σ→Int) (d:σ→AV) (e:σ→Int) (f:σ→AV) (g h:σ→Int) (m:σ→Mem) (μ:σ→Nat) (step:∀x,I x→xD (a x) (b x) (c x) (d x) (e x) (f x) (g x) (h x) (m x) R (fun s'=>∃y,I y∧μ y<μ x∧Cl KK 87 0 s' (iM (a y) (b y) (c y) (d y) (e y) (f y) (g y) (h y) (m y)))) (x:σ) (hx:I x) {s:St} (hw:Cl KK 87 0 s (iM (a x) (b x) (c x) (d x) (e x) (f x) (g x) (h x) (m x))):C6 pg KK 87 0 (.loop rN) s (wB R):=
 C6.He hw (C6.loops Ee I (fun x=>iM (a x) (b x) (c x) (d x) (e x) (f x) (g x) (h x) (m x)) μ (fun x hx=>(pS (a x) (b x) (c x) (d x) (e x) (f x) (g x) (h x) (m x) R _).mpr (step x hx)) x hx)
noncomputable def F6 (j:AV) (k a b:Int) (n:ByteArray) (o:Int) (c:ByteArray) (d e f g h i:Int) (R:AV→Mem→Prop):Prop:=
Bo (N8 [AV.sc (.string ⟨#[]⟩),Aa (0),Aa (0),AV.sc (.string ⟨#[]⟩)] [(0,1),(1,1),(2,1),(3,1)] []) fun p=>
Cw pg (Am ((6,some ⟨[AV.sc (.string ⟨#[]⟩),Aa (0),Aa (0),AV.sc (.string ⟨#[]⟩)],30⟩)::(2,some ⟨[AV.sc (.string ⟨#[]⟩),Aa (0),Aa (0),AV.sc (.string ⟨#[]⟩)],30⟩)::(1,some ⟨[AV.sc (.string c),Aa d,Aa e,Aa f,Aa g,Aa h,Aa i],26⟩)::(0,some ⟨[Aa a,Aa b],24⟩)::[])) 30 (AV.ptr 6 0) p fun v1 d1=>
Bo (Iv (Am (Ag ((6,some ⟨[AV.sc (.string ⟨#[]⟩),Aa (0),Aa (0),AV.sc (.string ⟨#[]⟩)],30⟩)::(2,some ⟨[AV.sc (.string ⟨#[]⟩),Aa (0),Aa (0),AV.sc (.string ⟨#[]⟩)],30⟩)::(1,some ⟨[AV.sc (.string c),Aa d,Aa e,Aa f,Aa g,Aa h,Aa i],26⟩)::(0,some ⟨[Aa a,Aa b],24⟩)::[]) d1)) 2 (AV.ptr 0 0)) fun v2=>
I3 v2 fun c3 c4=>
Af c3 fun q=>
Af c4 fun r=>
Bd pg KK.gl (Ag ((6,some ⟨[AV.sc (.string ⟨#[]⟩),Aa (0),Aa (0),AV.sc (.string ⟨#[]⟩)],30⟩)::(2,some ⟨[AV.sc (.string ⟨#[]⟩),Aa (0),Aa (0),AV.sc (.string ⟨#[]⟩)],30⟩)::(1,some ⟨[AV.sc (.string c),Aa d,Aa e,Aa f,Aa g,Aa h,Aa i],26⟩)::(0,some ⟨[Aa a,Aa b],24⟩)::[]) d1) 18 [j,Aa k,AV.agg [Aa q,Aa r]] fun v7=>
Af v7 fun m=>
bif (m !=(0)) then (
Bo (Iv (Am (Ag ((6,some ⟨[AV.sc (.string ⟨#[]⟩),Aa (0),Aa (0),AV.sc (.string ⟨#[]⟩)],30⟩)::(2,some ⟨[AV.sc (.string ⟨#[]⟩),Aa (0),Aa (0),AV.sc (.string ⟨#[]⟩)],30⟩)::(1,some ⟨[AV.sc (.string c),Aa d,Aa e,Aa f,Aa g,Aa h,Aa i],26⟩)::(0,some ⟨[Aa a,Aa b],24⟩)::[]) d1)) 4 (AV.ptr 6 0)) fun v9=>
Sy v9 fun K5 ag ah ai=>
Em K5 fun s14=>
Af ag fun aj=>
Af ah fun ak=>
Em ai fun s17=>
Cw pg (Am (Ag ((6,some ⟨[AV.sc (.string ⟨#[]⟩),Aa (0),Aa (0),AV.sc (.string ⟨#[]⟩)],30⟩)::(2,some ⟨[AV.sc (.string ⟨#[]⟩),Aa (0),Aa (0),AV.sc (.string ⟨#[]⟩)],30⟩)::(1,some ⟨[AV.sc (.string c),Aa d,Aa e,Aa f,Aa g,Aa h,Aa i],26⟩)::(0,some ⟨[Aa a,Aa b],24⟩)::[]) d1)) 30 (AV.ptr 2 0) (AV.agg [AV.sc (.string s14),Aa aj,Aa ak,AV.sc (.string s17)]) fun ba d18=>
A2 R (Ag (Ag ((6,some ⟨[AV.sc (.string ⟨#[]⟩),Aa (0),Aa (0),AV.sc (.string ⟨#[]⟩)],30⟩)::(2,some ⟨[AV.sc (.string ⟨#[]⟩),Aa (0),Aa (0),AV.sc (.string ⟨#[]⟩)],30⟩)::(1,some ⟨[AV.sc (.string c),Aa d,Aa e,Aa f,Aa g,Aa h,Aa i],26⟩)::(0,some ⟨[Aa a,Aa b],24⟩)::[]) d1) d18) [(Fq pg (Am (Ag (Ag ((6,some ⟨[AV.sc (.string ⟨#[]⟩),Aa (0),Aa (0),AV.sc (.string ⟨#[]⟩)],30⟩)::(2,some ⟨[AV.sc (.string ⟨#[]⟩),Aa (0),Aa (0),AV.sc (.string ⟨#[]⟩)],30⟩)::(1,some ⟨[AV.sc (.string c),Aa d,Aa e,Aa f,Aa g,Aa h,Aa i],26⟩)::(0,some ⟨[Aa a,Aa b],24⟩)::[]) d1) d18)) 30 (AV.ptr 2 0)).map (·.1),some AV.B1,some (Aa m)]) else (
Bo (Eb 1 j (Aa k)) fun s=>
Bo (Fm (Am (Ag ((6,some ⟨[AV.sc (.string ⟨#[]⟩),Aa (0),Aa (0),AV.sc (.string ⟨#[]⟩)],30⟩)::(2,some ⟨[AV.sc (.string ⟨#[]⟩),Aa (0),Aa (0),AV.sc (.string ⟨#[]⟩)],30⟩)::(1,some ⟨[AV.sc (.string c),Aa d,Aa e,Aa f,Aa g,Aa h,Aa i],26⟩)::(0,some ⟨[Aa a,Aa b],24⟩)::[]) d1)) s) fun t=>
Bo (Iv (Am (Ag ((6,some ⟨[AV.sc (.string ⟨#[]⟩),Aa (0),Aa (0),AV.sc (.string ⟨#[]⟩)],30⟩)::(2,some ⟨[AV.sc (.string ⟨#[]⟩),Aa (0),Aa (0),AV.sc (.string ⟨#[]⟩)],30⟩)::(1,some ⟨[AV.sc (.string c),Aa d,Aa e,Aa f,Aa g,Aa h,Aa i],26⟩)::(0,some ⟨[Aa a,Aa b],24⟩)::[]) d1)) 7 (AV.ptr 1 0)) fun al=>
nH al fun Z1 Zn am Pn Si S6 Qh=>
Em Z1 fun s29=>
Af Zn fun u=>
Af am fun v=>
Af Pn fun w=>
Af Si fun x=>
Af S6 fun y=>
Af Qh fun z=>
Bd pg KK.gl (Ag ((6,some ⟨[AV.sc (.string ⟨#[]⟩),Aa (0),Aa (0),AV.sc (.string ⟨#[]⟩)],30⟩)::(2,some ⟨[AV.sc (.string ⟨#[]⟩),Aa (0),Aa (0),AV.sc (.string ⟨#[]⟩)],30⟩)::(1,some ⟨[AV.sc (.string c),Aa d,Aa e,Aa f,Aa g,Aa h,Aa i],26⟩)::(0,some ⟨[Aa a,Aa b],24⟩)::[]) d1) 7 [AV.sc (.string n),t,Aa o,AV.agg [AV.sc (.string s29),Aa u,Aa v,Aa w,Aa x,Aa y,Aa z]] fun an=>
Fs an fun cX c38=>
Af c38 fun l=>
bif (l !=(0)) then (
Bo (Iv (Am (Ag ((6,some ⟨[AV.sc (.string ⟨#[]⟩),Aa (0),Aa (0),AV.sc (.string ⟨#[]⟩)],30⟩)::(2,some ⟨[AV.sc (.string ⟨#[]⟩),Aa (0),Aa (0),AV.sc (.string ⟨#[]⟩)],30⟩)::(1,some ⟨[AV.sc (.string c),Aa d,Aa e,Aa f,Aa g,Aa h,Aa i],26⟩)::(0,some ⟨[Aa a,Aa b],24⟩)::[]) d1)) 4 (AV.ptr 6 0)) fun ao=>
Sy ao fun rK c42 c43 Yq=>
Em rK fun s45=>
Af c42 fun ap=>
Af c43 fun aq=>
Em Yq fun s48=>
Cw pg (Am (Ag ((6,some ⟨[AV.sc (.string ⟨#[]⟩),Aa (0),Aa (0),AV.sc (.string ⟨#[]⟩)],30⟩)::(2,some ⟨[AV.sc (.string ⟨#[]⟩),Aa (0),Aa (0),AV.sc (.string ⟨#[]⟩)],30⟩)::(1,some ⟨[AV.sc (.string c),Aa d,Aa e,Aa f,Aa g,Aa h,Aa i],26⟩)::(0,some ⟨[Aa a,Aa b],24⟩)::[]) d1)) 30 (AV.ptr 2 0) (AV.agg [AV.sc (.string s45),Aa ap,Aa aq,AV.sc (.string s48)]) fun bb d49=>
A2 R (Ag (Ag ((6,some ⟨[AV.sc (.string ⟨#[]⟩),Aa (0),Aa (0),AV.sc (.string ⟨#[]⟩)],30⟩)::(2,some ⟨[AV.sc (.string ⟨#[]⟩),Aa (0),Aa (0),AV.sc (.string ⟨#[]⟩)],30⟩)::(1,some ⟨[AV.sc (.string c),Aa d,Aa e,Aa f,Aa g,Aa h,Aa i],26⟩)::(0,some ⟨[Aa a,Aa b],24⟩)::[]) d1) d49) [(Fq pg (Am (Ag (Ag ((6,some ⟨[AV.sc (.string ⟨#[]⟩),Aa (0),Aa (0),AV.sc (.string ⟨#[]⟩)],30⟩)::(2,some ⟨[AV.sc (.string ⟨#[]⟩),Aa (0),Aa (0),AV.sc (.string ⟨#[]⟩)],30⟩)::(1,some ⟨[AV.sc (.string c),Aa d,Aa e,Aa f,Aa g,Aa h,Aa i],26⟩)::(0,some ⟨[Aa a,Aa b],24⟩)::[]) d1) d49)) 30 (AV.ptr 2 0)).map (·.1),some AV.B1,some (Aa l)]) else (
Bo (Eb 1 j (Aa k)) fun aa=>
Bo (Fm (Am (Ag ((6,some ⟨[AV.sc (.string ⟨#[]⟩),Aa (0),Aa (0),AV.sc (.string ⟨#[]⟩)],30⟩)::(2,some ⟨[AV.sc (.string ⟨#[]⟩),Aa (0),Aa (0),AV.sc (.string ⟨#[]⟩)],30⟩)::(1,some ⟨[AV.sc (.string c),Aa d,Aa e,Aa f,Aa g,Aa h,Aa i],26⟩)::(0,some ⟨[Aa a,Aa b],24⟩)::[]) d1)) aa) fun ab=>
Bo (Iv (Am (Ag ((6,some ⟨[AV.sc (.string ⟨#[]⟩),Aa (0),Aa (0),AV.sc (.string ⟨#[]⟩)],30⟩)::(2,some ⟨[AV.sc (.string ⟨#[]⟩),Aa (0),Aa (0),AV.sc (.string ⟨#[]⟩)],30⟩)::(1,some ⟨[AV.sc (.string c),Aa d,Aa e,Aa f,Aa g,Aa h,Aa i],26⟩)::(0,some ⟨[Aa a,Aa b],24⟩)::[]) d1)) 2 (AV.ptr 0 0)) fun ar=>
I3 ar fun c53 c54=>
Af c53 fun ad=>
Af c54 fun ae=>
Bd pg KK.gl (Ag ((6,some ⟨[AV.sc (.string ⟨#[]⟩),Aa (0),Aa (0),AV.sc (.string ⟨#[]⟩)],30⟩)::(2,some ⟨[AV.sc (.string ⟨#[]⟩),Aa (0),Aa (0),AV.sc (.string ⟨#[]⟩)],30⟩)::(1,some ⟨[AV.sc (.string c),Aa d,Aa e,Aa f,Aa g,Aa h,Aa i],26⟩)::(0,some ⟨[Aa a,Aa b],24⟩)::[]) d1) 19 [j,Aa k,ab,AV.agg [Aa ad,Aa ae]] fun au=>
Hr au fun af=>
bif af then (
Bo (Iv (Am (Ag ((6,some ⟨[AV.sc (.string ⟨#[]⟩),Aa (0),Aa (0),AV.sc (.string ⟨#[]⟩)],30⟩)::(2,some ⟨[AV.sc (.string ⟨#[]⟩),Aa (0),Aa (0),AV.sc (.string ⟨#[]⟩)],30⟩)::(1,some ⟨[AV.sc (.string c),Aa d,Aa e,Aa f,Aa g,Aa h,Aa i],26⟩)::(0,some ⟨[Aa a,Aa b],24⟩)::[]) d1)) 4 (AV.ptr 6 0)) fun av=>
Sy av fun c60 c61 c62 tM=>
Em c60 fun s64=>
Af c61 fun aw=>
Af c62 fun ax=>
Em tM fun s67=>
Cw pg (Am (Ag ((6,some ⟨[AV.sc (.string ⟨#[]⟩),Aa (0),Aa (0),AV.sc (.string ⟨#[]⟩)],30⟩)::(2,some ⟨[AV.sc (.string ⟨#[]⟩),Aa (0),Aa (0),AV.sc (.string ⟨#[]⟩)],30⟩)::(1,some ⟨[AV.sc (.string c),Aa d,Aa e,Aa f,Aa g,Aa h,Aa i],26⟩)::(0,some ⟨[Aa a,Aa b],24⟩)::[]) d1)) 30 (AV.ptr 2 0) (AV.agg [AV.sc (.string s64),Aa aw,Aa ax,AV.sc (.string s67)]) fun bc d68=>
A2 R (Ag (Ag ((6,some ⟨[AV.sc (.string ⟨#[]⟩),Aa (0),Aa (0),AV.sc (.string ⟨#[]⟩)],30⟩)::(2,some ⟨[AV.sc (.string ⟨#[]⟩),Aa (0),Aa (0),AV.sc (.string ⟨#[]⟩)],30⟩)::(1,some ⟨[AV.sc (.string c),Aa d,Aa e,Aa f,Aa g,Aa h,Aa i],26⟩)::(0,some ⟨[Aa a,Aa b],24⟩)::[]) d1) d68) [(Fq pg (Am (Ag (Ag ((6,some ⟨[AV.sc (.string ⟨#[]⟩),Aa (0),Aa (0),AV.sc (.string ⟨#[]⟩)],30⟩)::(2,some ⟨[AV.sc (.string ⟨#[]⟩),Aa (0),Aa (0),AV.sc (.string ⟨#[]⟩)],30⟩)::(1,some ⟨[AV.sc (.string c),Aa d,Aa e,Aa f,Aa g,Aa h,Aa i],26⟩)::(0,some ⟨[Aa a,Aa b],24⟩)::[]) d1) d68)) 30 (AV.ptr 2 0)).map (·.1),some AV.B1,some (Aa (11))]) else (
Bo (Ed cX) fun ay=>
Af ay fun az=>
C6 pg KK 87 0 (.loop rN) ⟨[(0,j),(1,(Aa k)),(2,(AV.agg [Aa a,Aa b])),(3,(AV.sc (.string n))),(4,(Aa o)),(5,(AV.agg [AV.sc (.string c),Aa d,Aa e,Aa f,Aa g,Aa h,Aa i])),(8,(AV.ptr 0 0)),(11,(AV.ptr 1 0)),(12,(AV.ptr 2 0)),(13,AV.B1),(14,(Aa (0))),(23,p),(15,(AV.ptr 6 0)),(24,j),(25,(Aa k)),(26,(AV.agg [Aa q,Aa r])),(27,(Aa m)),(16,(Aa m)),(28,(Aa m)),(29,(Ah (m !=(0)))),(33,(AV.sc (.string n))),(34,j),(35,(Aa k)),(36,s),(37,t),(38,(Aa o)),(39,(AV.agg [AV.sc (.string s29),Aa u,Aa v,Aa w,Aa x,Aa y,Aa z])),(40,(AV.B4 [cX,Aa l])),(32,(AV.B4 [cX,Aa l])),(41,cX),(42,(Aa l)),(17,cX),(18,(Aa l)),(43,(Aa l)),(44,(Ah (l !=(0)))),(47,j),(48,(Aa k)),(49,j),(50,(Aa k)),(51,aa),(52,ab),(53,(AV.agg [Aa ad,Aa ae])),(54,(Ah af)),(56,cX),(57,(Aa az)),(58,(Aa (0)))],Ag ((6,some ⟨[AV.sc (.string ⟨#[]⟩),Aa (0),Aa (0),AV.sc (.string ⟨#[]⟩)],30⟩)::(2,some ⟨[AV.sc (.string ⟨#[]⟩),Aa (0),Aa (0),AV.sc (.string ⟨#[]⟩)],30⟩)::(1,some ⟨[AV.sc (.string c),Aa d,Aa e,Aa f,Aa g,Aa h,Aa i],26⟩)::(0,some ⟨[Aa a,Aa b],24⟩)::[]) d1,104⟩ (wB R))))
theorem zD (a:AV) (b c d:Int) (e:ByteArray) (f:Int) (g:ByteArray) (i j k l m n:Int) (R:AV→Mem→Prop) (h:F6 a b c d e f g i j k l m n R):Own pg KK.gl 6 [a,Aa b,AV.agg [Aa c,Aa d],AV.sc (.string e),Aa f,AV.agg [AV.sc (.string g),Aa i,Aa j,Aa k,Aa l,Aa m,Aa n]] R:=Bk Ee Tryz.func6 (code:=c6) Bi Bi Bi (X:=F6 a b c d e f g i j k l m n R) Bi h
noncomputable def c9:Code:=((Tryz.f9).body).getD .skip
noncomputable def q9 (R:AV→Mem→Prop):Bh→St→Prop:=C8 pg Tryz.f9 R
noncomputable def vQ:Code:=Ey c9 0
noncomputable def rA (R:AV→Mem→Prop):Bh→St→Prop:=Ew pg KK 26 0 c9 0 (q9 R)
noncomputable def Aed (R:AV→Mem→Prop) (N0:St→Prop):Bh→St→Prop:=Ex N0 (rA R)
def fR (a b:AV) (c:Bool) (d e:Int) (m:Mem):St:=⟨[(0,a),(1,b),(4,(Ah c)),(12,(Aa d)),(13,(Aa e))],m,100000⟩
noncomputable def o5 (b c:AV) (u:Bool) (d a:Int) (m:Mem) (R:AV→Mem→Prop) (N0:St→Prop):Prop:=
bif (decide (a<d)) then (
Bo (Eb 6 b (Aa a)) fun e=>
Bo (Iv (Am m) 6 e) fun v=>
Ji v fun c8 c9 K5 w x y=>
Af c8 fun f=>
Af c9 fun g=>
Af K5 fun h=>
Af w fun i=>
Af x fun j=>
Af y fun k=>
Bo (Eb 6 c (Aa a)) fun l=>
Bo (Iv (Am m) 6 l) fun z=>
Ji z fun Z1 Zn aa Pn Si S6=>
Af Z1 fun n=>
Af Zn fun o=>
Af aa fun p=>
Af Pn fun q=>
Af Si fun r=>
Af S6 fun s=>
Bo (Cs pg (.binOp .neq 47 (.tmp 0) (.tmp 1) 47) 4 [AV.agg [Aa f,Aa g,Aa h,Aa i,Aa j,Aa k],AV.agg [Aa n,Aa o,Aa p,Aa q,Aa r,Aa s]] (Am m) 100011) fun ab=>
Hr ab fun t=>
bif t then (
A2 R m [some (Ah false)]) else (
N0 ⟨[(0,b),(1,c),(4,(Ah u)),(12,(Aa d)),(13,(Aa (IntKind.wrap .i64 (a+(1))))),(14,(Ah (decide (a<d)))),(15,(Aa a)),(5,(Aa a)),(16,b),(17,(Aa a)),(18,e),(19,(AV.agg [Aa f,Aa g,Aa h,Aa i,Aa j,Aa k])),(20,c),(21,(Aa a)),(22,l),(23,(AV.agg [Aa n,Aa o,Aa p,Aa q,Aa r,Aa s])),(24,(Ah t)),(25,(Aa (IntKind.wrap .i64 (a+(1)))))],m,100014⟩)) else (
A2 R m [some (Ah true)])
theorem wM (a b:AV) (c:Bool) (d e:Int) (m:Mem) (R:AV→Mem→Prop) (N0:St→Prop):W pg KK 26 0 vQ (fR a b c d e m) (Aed R N0)=o5 a b c d e m R N0:=by kernel_rfl
theorem Ahd (R:AV→Mem→Prop) {σ:Type} (I:σ→Prop) (a b:σ→AV) (c:σ→Bool) (d e:σ→Int) (m:σ→Mem) (μ:σ→Nat) (step:∀x,I x→o5 (a x) (b x) (c x) (d x) (e x) (m x) R (fun s'=>∃y,I y∧μ y<μ x∧Cl KK 26 0 s' (fR (a y) (b y) (c y) (d y) (e y) (m y)))) (x:σ) (hx:I x) {s:St} (hw:Cl KK 26 0 s (fR (a x) (b x) (c x) (d x) (e x) (m x))):C6 pg KK 26 0 (.loop vQ) s (rA R):=
 C6.He hw (C6.loops Ee I (fun x=>fR (a x) (b x) (c x) (d x) (e x) (m x)) μ (fun x hx=>(wM (a x) (b x) (c x) (d x) (e x) (m x) R _).mpr (step x hx)) x hx)
noncomputable def F9 (a b:AV) (R:AV→Mem→Prop):Prop:=
Bo (Ed a) fun e=>
Af e fun c=>
Bo (Ed b) fun f=>
Af f fun d=>
bif (c !=d) then (
A2 R [] [some (Ah false)]) else (
Bo (Ed a) fun g=>
Af g fun h=>
C6 pg KK 26 0 (.loop vQ) ⟨[(0,a),(1,b),(4,(Ah false)),(6,a),(7,(Aa c)),(8,b),(9,(Aa d)),(10,(Ah (c !=d))),(11,a),(12,(Aa h)),(13,(Aa (0)))],[],9⟩ (rA R))
theorem Aal (a b:AV) (R:AV→Mem→Prop) (h:F9 a b R):Own pg KK.gl 9 [a,b] R:=Bk Ee Tryz.func9 (code:=c9) Bi Bi Bi (X:=F9 a b R) Bi h
noncomputable def K5:Code:=((Tryz.f10).body).getD .skip
noncomputable def q10 (R:AV→Mem→Prop):Bh→St→Prop:=C8 pg Tryz.f10 R
noncomputable def cM:Code:=Ey K5 0
noncomputable def dL (R:AV→Mem→Prop):Bh→St→Prop:=Ew pg KK 33 0 K5 0 (q10 R)
noncomputable def Aan (R:AV→Mem→Prop) (N0:St→Prop):Bh→St→Prop:=Ex N0 (dL R)
def Tx (a:Int) (b:AV) (c:Bool) (d:AV) (e f g h:Int) (m:Mem):St:=⟨[(1,(Aa a)),(2,b),(7,(AV.ptr 0 0)),(8,(Ah c)),(13,d),(14,(Aa e)),(15,(Aa f))],((0,some ⟨[Aa g,Aa h],24⟩)::m),100000⟩
noncomputable def cU (d:Int) (h:AV) (l:Bool) (j:AV) (g a b c:Int) (m:Mem) (R:AV→Mem→Prop) (N0:St→Prop):Prop:=
bif (decide (a<g)) then (
Bo (Eb 1 j (Aa a)) fun k=>
Bo (Fm (Am ((0,some ⟨[Aa b,Aa c],24⟩)::m)) k) fun f=>
bif (a==d) then (
N0 ⟨[(1,(Aa d)),(2,h),(7,(AV.ptr 0 0)),(8,(Ah l)),(13,j),(14,(Aa g)),(15,(Aa (IntKind.wrap .i64 (a+(1))))),(16,(Ah (decide (a<g)))),(17,(Aa a)),(18,k),(19,f),(9,(Aa a)),(10,f),(20,(Aa a)),(21,(Aa d)),(22,(Ah (a==d))),(32,(Aa (IntKind.wrap .i64 (a+(1)))))],((0,some ⟨[Aa b,Aa c],24⟩)::m),100011⟩) else (
Bd pg KK.gl ((0,some ⟨[Aa b,Aa c],24⟩)::m) 34 [h,f,AV.agg [Aa b,Aa c]] fun n=>
Fs n fun c5 c6=>
Af c5 fun i=>
Af c6 fun e=>
bif (e !=(8)) then (
A2 R ((0,some ⟨[Aa b,Aa c],24⟩)::m) [some (Ah false)]) else (
N0 ⟨[(1,(Aa d)),(2,h),(7,(AV.ptr 0 0)),(8,(Ah l)),(13,j),(14,(Aa g)),(15,(Aa (IntKind.wrap .i64 (a+(1))))),(16,(Ah (decide (a<g)))),(17,(Aa a)),(18,k),(19,f),(9,(Aa a)),(10,f),(20,(Aa a)),(21,(Aa d)),(22,(Ah (a==d))),(24,h),(25,f),(26,(AV.agg [Aa b,Aa c])),(27,(AV.B4 [Aa i,Aa e])),(23,(AV.B4 [Aa i,Aa e])),(28,(Aa i)),(29,(Aa e)),(11,(Aa i)),(12,(Aa e)),(30,(Aa e)),(31,(Ah (e !=(8)))),(32,(Aa (IntKind.wrap .i64 (a+(1)))))],((0,some ⟨[Aa b,Aa c],24⟩)::m),100085⟩))) else (
A2 R ((0,some ⟨[Aa b,Aa c],24⟩)::m) [some (Ah true)])
theorem jG (a:Int) (b:AV) (c:Bool) (d:AV) (e f g h:Int) (m:Mem) (R:AV→Mem→Prop) (N0:St→Prop):W pg KK 33 0 cM (Tx a b c d e f g h m) (Aan R N0)=cU a b c d e f g h m R N0:=by kernel_rfl
theorem Ada (R:AV→Mem→Prop) {σ:Type} (I:σ→Prop) (a:σ→Int) (b:σ→AV) (c:σ→Bool) (d:σ→AV) (e f g h:σ→Int) (m:σ→Mem) (μ:σ→Nat) (step:∀x,I x→cU (a x) (b x) (c x) (d x) (e x) (f x) (g x) (h x) (m x) R (fun s'=>∃y,I y∧μ y<μ x∧Cl KK 33 0 s' (Tx (a y) (b y) (c y) (d y) (e y) (f y) (g y) (h y) (m y)))) (x:σ) (hx:I x) {s:St} (hw:Cl KK 33 0 s (Tx (a x) (b x) (c x) (d x) (e x) (f x) (g x) (h x) (m x))):C6 pg KK 33 0 (.loop cM) s (dL R):=
 C6.He hw (C6.loops Ee I (fun x=>Tx (a x) (b x) (c x) (d x) (e x) (f x) (g x) (h x) (m x)) μ (fun x hx=>(jG (a x) (b x) (c x) (d x) (e x) (f x) (g x) (h x) (m x) R _).mpr (step x hx)) x hx)
noncomputable def F10 (a:AV) (d:Int) (e:AV) (b c:Int) (R:AV→Mem→Prop):Prop:=
Bo (Ed a) fun f=>
Af f fun g=>
C6 pg KK 33 0 (.loop cM) ⟨[(0,a),(1,(Aa d)),(2,e),(3,(AV.agg [Aa b,Aa c])),(7,(AV.ptr 0 0)),(8,(Ah false)),(13,a),(14,(Aa g)),(15,(Aa (0)))],((0,some ⟨[Aa b,Aa c],24⟩)::[]),5⟩ (dL R)
theorem uA (a:AV) (b:Int) (c:AV) (d e:Int) (R:AV→Mem→Prop) (h:F10 a b c d e R):Own pg KK.gl 10 [a,Aa b,c,AV.agg [Aa d,Aa e]] R:=Bk Ee Tryz.func10 (code:=K5) Bi Bi Bi (X:=F10 a b c d e R) Bi h
noncomputable def c3:Code:=((Tryz.f3).body).getD .skip
noncomputable def q3 (R:AV→Mem→Prop):Bh→St→Prop:=C8 pg Tryz.f3 R
noncomputable def wN:Code:=Ey c3 0
noncomputable def qY (R:AV→Mem→Prop):Bh→St→Prop:=Ew pg KK 101 0 c3 0 (q3 R)
noncomputable def Ac4 (R:AV→Mem→Prop) (N0:St→Prop):Bh→St→Prop:=Ex N0 (qY R)
def eZ (a:AV) (b c:Int) (d:Bool) (e f:AV) (g h i j:Int) (k:ByteArray) (l n o p q r:Int) (s:ByteArray) (t u:Int) (v:ByteArray) (m:Mem):St:=⟨[(0,a),(1,(Aa b)),(3,(Aa c)),(7,(AV.ptr 0 0)),(9,(AV.ptr 1 0)),(10,(Ah d)),(11,(AV.ptr 207 0)),(12,e),(56,f),(57,(Aa g)),(58,(Aa h))],((0,some ⟨[Aa i,Aa j],24⟩)::(1,some ⟨[AV.sc (.string k),Aa l,Aa n,Aa o,Aa p,Aa q,Aa r],26⟩)::(207,some ⟨[AV.sc (.string s),Aa t,Aa u,AV.sc (.string v)],30⟩)::m),100000⟩
noncomputable def wD (r:AV) (s u:Int) (af:Bool) (w x:AV) (v t c d:Int) (e:ByteArray) (f g h i j k:Int) (l:ByteArray) (n o:Int) (p:ByteArray) (m:Mem) (R:AV→Mem→Prop) (N0:St→Prop):Prop:=
bif (decide (t<v)) then (
Bo (Eb 4 x (Aa t)) fun y=>
Bo (Iv (Am ((0,some ⟨[Aa c,Aa d],24⟩)::(1,some ⟨[AV.sc (.string e),Aa f,Aa g,Aa h,Aa i,Aa j,Aa k],26⟩)::(207,some ⟨[AV.sc (.string l),Aa n,Aa o,AV.sc (.string p)],30⟩)::m)) 4 y) fun ag=>
Sy ag fun c32 So yH tP=>
Em c32 fun s36=>
Af So fun a=>
Af yH fun b=>
Em tP fun s39=>
Bo (Eb 1 r (Aa s)) fun z=>
Bo (Fm (Am ((100003,some ⟨[AV.sc (.string s36),Aa a,Aa b,AV.sc (.string s39)],30⟩)::(100003,some ⟨[AV.sc (.string ⟨#[]⟩),Aa (0),Aa (0),AV.sc (.string ⟨#[]⟩)],30⟩)::(0,some ⟨[Aa c,Aa d],24⟩)::(1,some ⟨[AV.sc (.string e),Aa f,Aa g,Aa h,Aa i,Aa j,Aa k],26⟩)::(207,some ⟨[AV.sc (.string l),Aa n,Aa o,AV.sc (.string p)],30⟩)::m)) z) fun aa=>
Bo (N8 [Aa (0),Aa (0)] [(0,1),(1,1)] []) fun ab=>
Bd pg KK.gl ((100003,some ⟨[AV.sc (.string s36),Aa a,Aa b,AV.sc (.string s39)],30⟩)::(100003,some ⟨[AV.sc (.string ⟨#[]⟩),Aa (0),Aa (0),AV.sc (.string ⟨#[]⟩)],30⟩)::(0,some ⟨[Aa c,Aa d],24⟩)::(1,some ⟨[AV.sc (.string e),Aa f,Aa g,Aa h,Aa i,Aa j,Aa k],26⟩)::(207,some ⟨[AV.sc (.string l),Aa n,Aa o,AV.sc (.string p)],30⟩)::m) 8 [aa,AV.agg [AV.sc (.string s36),Aa a,Aa b,AV.sc (.string s39)],Aa u,AV.agg [AV.sc (.string e),Aa f,Aa g,Aa h,Aa i,Aa j,Aa k],ab] fun ah=>
Fs ah fun Yq c45=>
Af c45 fun q=>
Bo (Cs pg (.binOp .eql 30 (.tmp 0) (.tmp 1) 30) 4 [AV.agg [AV.sc (.string s36),Aa a,Aa b,AV.sc (.string s39)],AV.agg [AV.sc (.string l),Aa n,Aa o,AV.sc (.string p)]] (Am ((100003,some ⟨[AV.sc (.string s36),Aa a,Aa b,AV.sc (.string s39)],30⟩)::(100003,some ⟨[AV.sc (.string ⟨#[]⟩),Aa (0),Aa (0),AV.sc (.string ⟨#[]⟩)],30⟩)::(0,some ⟨[Aa c,Aa d],24⟩)::(1,some ⟨[AV.sc (.string e),Aa f,Aa g,Aa h,Aa i,Aa j,Aa k],26⟩)::(207,some ⟨[AV.sc (.string l),Aa n,Aa o,AV.sc (.string p)],30⟩)::m)) 100021) fun ai=>
Hr ai fun ad=>
bif ad then (
bif (q==(0)) then (
Bd pg KK.gl ((100003,some ⟨[AV.sc (.string s36),Aa a,Aa b,AV.sc (.string s39)],30⟩)::(100003,some ⟨[AV.sc (.string ⟨#[]⟩),Aa (0),Aa (0),AV.sc (.string ⟨#[]⟩)],30⟩)::(0,some ⟨[Aa c,Aa d],24⟩)::(1,some ⟨[AV.sc (.string e),Aa f,Aa g,Aa h,Aa i,Aa j,Aa k],26⟩)::(207,some ⟨[AV.sc (.string l),Aa n,Aa o,AV.sc (.string p)],30⟩)::m) 9 [Yq,w] fun aj=>
Hr aj fun ak=>
bif ak then (
Bd pg KK.gl ((100003,some ⟨[AV.sc (.string s36),Aa a,Aa b,AV.sc (.string s39)],30⟩)::(100003,some ⟨[AV.sc (.string ⟨#[]⟩),Aa (0),Aa (0),AV.sc (.string ⟨#[]⟩)],30⟩)::(0,some ⟨[Aa c,Aa d],24⟩)::(1,some ⟨[AV.sc (.string e),Aa f,Aa g,Aa h,Aa i,Aa j,Aa k],26⟩)::(207,some ⟨[AV.sc (.string l),Aa n,Aa o,AV.sc (.string p)],30⟩)::m) 10 [r,Aa s,w,AV.agg [Aa c,Aa d]] fun al=>
Hr al fun am=>
A2 R ((100003,some ⟨[AV.sc (.string s36),Aa a,Aa b,AV.sc (.string s39)],30⟩)::(100003,some ⟨[AV.sc (.string ⟨#[]⟩),Aa (0),Aa (0),AV.sc (.string ⟨#[]⟩)],30⟩)::(0,some ⟨[Aa c,Aa d],24⟩)::(1,some ⟨[AV.sc (.string e),Aa f,Aa g,Aa h,Aa i,Aa j,Aa k],26⟩)::(207,some ⟨[AV.sc (.string l),Aa n,Aa o,AV.sc (.string p)],30⟩)::m) [some (Ah am)]) else (
A2 R ((100003,some ⟨[AV.sc (.string s36),Aa a,Aa b,AV.sc (.string s39)],30⟩)::(100003,some ⟨[AV.sc (.string ⟨#[]⟩),Aa (0),Aa (0),AV.sc (.string ⟨#[]⟩)],30⟩)::(0,some ⟨[Aa c,Aa d],24⟩)::(1,some ⟨[AV.sc (.string e),Aa f,Aa g,Aa h,Aa i,Aa j,Aa k],26⟩)::(207,some ⟨[AV.sc (.string l),Aa n,Aa o,AV.sc (.string p)],30⟩)::m) [some (Ah false)])) else (
A2 R ((100003,some ⟨[AV.sc (.string s36),Aa a,Aa b,AV.sc (.string s39)],30⟩)::(100003,some ⟨[AV.sc (.string ⟨#[]⟩),Aa (0),Aa (0),AV.sc (.string ⟨#[]⟩)],30⟩)::(0,some ⟨[Aa c,Aa d],24⟩)::(1,some ⟨[AV.sc (.string e),Aa f,Aa g,Aa h,Aa i,Aa j,Aa k],26⟩)::(207,some ⟨[AV.sc (.string l),Aa n,Aa o,AV.sc (.string p)],30⟩)::m) [some (Ah false)])) else (
bif (q==(0)) then (
Bd pg KK.gl ((100003,some ⟨[AV.sc (.string s36),Aa a,Aa b,AV.sc (.string s39)],30⟩)::(100003,some ⟨[AV.sc (.string ⟨#[]⟩),Aa (0),Aa (0),AV.sc (.string ⟨#[]⟩)],30⟩)::(0,some ⟨[Aa c,Aa d],24⟩)::(1,some ⟨[AV.sc (.string e),Aa f,Aa g,Aa h,Aa i,Aa j,Aa k],26⟩)::(207,some ⟨[AV.sc (.string l),Aa n,Aa o,AV.sc (.string p)],30⟩)::m) 10 [r,Aa s,Yq,AV.agg [Aa c,Aa d]] fun an=>
Hr an fun ae=>
bif ae then (
A2 R ((100003,some ⟨[AV.sc (.string s36),Aa a,Aa b,AV.sc (.string s39)],30⟩)::(100003,some ⟨[AV.sc (.string ⟨#[]⟩),Aa (0),Aa (0),AV.sc (.string ⟨#[]⟩)],30⟩)::(0,some ⟨[Aa c,Aa d],24⟩)::(1,some ⟨[AV.sc (.string e),Aa f,Aa g,Aa h,Aa i,Aa j,Aa k],26⟩)::(207,some ⟨[AV.sc (.string l),Aa n,Aa o,AV.sc (.string p)],30⟩)::m) [some (Ah false)]) else (
N0 ⟨[(0,r),(1,(Aa s)),(3,(Aa u)),(7,(AV.ptr 0 0)),(9,(AV.ptr 1 0)),(10,(Ah af)),(11,(AV.ptr 207 0)),(12,w),(56,x),(57,(Aa v)),(58,(Aa (IntKind.wrap .i64 (t+(1))))),(59,(Ah (decide (t<v)))),(60,y),(61,(AV.agg [AV.sc (.string s36),Aa a,Aa b,AV.sc (.string s39)])),(16,(AV.ptr 100003 0)),(63,r),(64,(Aa s)),(65,z),(66,aa),(67,(AV.agg [AV.sc (.string s36),Aa a,Aa b,AV.sc (.string s39)])),(68,(Aa u)),(69,(AV.agg [AV.sc (.string e),Aa f,Aa g,Aa h,Aa i,Aa j,Aa k])),(70,ab),(71,(AV.B4 [Yq,Aa q])),(62,(AV.B4 [Yq,Aa q])),(72,Yq),(73,(Aa q)),(17,Yq),(18,(Aa q)),(74,(AV.agg [AV.sc (.string s36),Aa a,Aa b,AV.sc (.string s39)])),(75,(AV.agg [AV.sc (.string l),Aa n,Aa o,AV.sc (.string p)])),(76,(Ah ad)),(91,(Aa q)),(92,(Ah (q==(0)))),(93,(Ah true)),(94,r),(95,(Aa s)),(96,Yq),(97,(AV.agg [Aa c,Aa d])),(98,(Ah ae)),(99,(Ah ae)),(100,(Aa (IntKind.wrap .i64 (t+(1)))))],((100003,some ⟨[AV.sc (.string s36),Aa a,Aa b,AV.sc (.string s39)],30⟩)::(100003,some ⟨[AV.sc (.string ⟨#[]⟩),Aa (0),Aa (0),AV.sc (.string ⟨#[]⟩)],30⟩)::(0,some ⟨[Aa c,Aa d],24⟩)::(1,some ⟨[AV.sc (.string e),Aa f,Aa g,Aa h,Aa i,Aa j,Aa k],26⟩)::(207,some ⟨[AV.sc (.string l),Aa n,Aa o,AV.sc (.string p)],30⟩)::m),100096⟩)) else (
N0 ⟨[(0,r),(1,(Aa s)),(3,(Aa u)),(7,(AV.ptr 0 0)),(9,(AV.ptr 1 0)),(10,(Ah af)),(11,(AV.ptr 207 0)),(12,w),(56,x),(57,(Aa v)),(58,(Aa (IntKind.wrap .i64 (t+(1))))),(59,(Ah (decide (t<v)))),(60,y),(61,(AV.agg [AV.sc (.string s36),Aa a,Aa b,AV.sc (.string s39)])),(16,(AV.ptr 100003 0)),(63,r),(64,(Aa s)),(65,z),(66,aa),(67,(AV.agg [AV.sc (.string s36),Aa a,Aa b,AV.sc (.string s39)])),(68,(Aa u)),(69,(AV.agg [AV.sc (.string e),Aa f,Aa g,Aa h,Aa i,Aa j,Aa k])),(70,ab),(71,(AV.B4 [Yq,Aa q])),(62,(AV.B4 [Yq,Aa q])),(72,Yq),(73,(Aa q)),(17,Yq),(18,(Aa q)),(74,(AV.agg [AV.sc (.string s36),Aa a,Aa b,AV.sc (.string s39)])),(75,(AV.agg [AV.sc (.string l),Aa n,Aa o,AV.sc (.string p)])),(76,(Ah ad)),(91,(Aa q)),(92,(Ah (q==(0)))),(93,(Ah false)),(94,(AV.B4 [])),(95,(AV.B4 [])),(96,(AV.B4 [])),(97,(AV.B4 [])),(98,(AV.B4 [])),(99,(Ah false)),(100,(Aa (IntKind.wrap .i64 (t+(1)))))],((100003,some ⟨[AV.sc (.string s36),Aa a,Aa b,AV.sc (.string s39)],30⟩)::(100003,some ⟨[AV.sc (.string ⟨#[]⟩),Aa (0),Aa (0),AV.sc (.string ⟨#[]⟩)],30⟩)::(0,some ⟨[Aa c,Aa d],24⟩)::(1,some ⟨[AV.sc (.string e),Aa f,Aa g,Aa h,Aa i,Aa j,Aa k],26⟩)::(207,some ⟨[AV.sc (.string l),Aa n,Aa o,AV.sc (.string p)],30⟩)::m),100028⟩))) else (
A2 R ((0,some ⟨[Aa c,Aa d],24⟩)::(1,some ⟨[AV.sc (.string e),Aa f,Aa g,Aa h,Aa i,Aa j,Aa k],26⟩)::(207,some ⟨[AV.sc (.string l),Aa n,Aa o,AV.sc (.string p)],30⟩)::m) [some (Ah false)])
theorem vI (a:AV) (b c:Int) (d:Bool) (e f:AV) (g h i j:Int) (k:ByteArray) (l n o p q r:Int) (s:ByteArray) (t u:Int) (v:ByteArray) (m:Mem) (R:AV→Mem→Prop) (N0:St→Prop):W pg KK 101 0 wN (eZ a b c d e f g h i j k l n o p q r s t u v m) (Ac4 R N0)=wD a b c d e f g h i j k l n o p q r s t u v m R N0:=by kernel_rfl
theorem Afj (R:AV→Mem→Prop) {σ:Type} (I:σ→Prop) (a:σ→AV) (b c:σ→Int) (d:σ→Bool) (e f:σ→AV) (g h i j:σ→Int) (k:σ→ByteArray) (l n o p q r:σ→Int) (t:σ→ByteArray) (u v:σ→Int) (w:σ→ByteArray) (m:σ→Mem) (μ:σ→Nat) (step:∀x,I x→wD (a x) (b x) (c x) (d x) (e x) (f x) (g x) (h x) (i x) (j x) (k x) (l x) (n x) (o x) (p x) (q x) (r x) (t x) (u x) (v x) (w x) (m x) R (fun s'=>∃y,I y∧μ y<μ x∧Cl KK 101 0 s' (eZ (a y) (b y) (c y) (d y) (e y) (f y) (g y) (h y) (i y) (j y) (k y) (l y) (n y) (o y) (p y) (q y) (r y) (t y) (u y) (v y) (w y) (m y)))) (x:σ) (hx:I x) {s:St} (hw:Cl KK 101 0 s (eZ (a x) (b x) (c x) (d x) (e x) (f x) (g x) (h x) (i x) (j x) (k x) (l x) (n x) (o x) (p x) (q x) (r x) (t x) (u x) (v x) (w x) (m x))):C6 pg KK 101 0 (.loop wN) s (qY R):=
 C6.He hw (C6.loops Ee I (fun x=>eZ (a x) (b x) (c x) (d x) (e x) (f x) (g x) (h x) (i x) (j x) (k x) (l x) (n x) (o x) (p x) (q x) (r x) (t x) (u x) (v x) (w x) (m x)) μ (fun x hx=>(vI (a x) (b x) (c x) (d x) (e x) (f x) (g x) (h x) (i x) (j x) (k x) (l x) (n x) (o x) (p x) (q x) (r x) (t x) (u x) (v x) (w x) (m x) R _).mpr (step x hx)) x hx)
noncomputable def F3 (l:AV) (o h i p:Int) (a:ByteArray) (b c d e f g:Int) (R:AV→Mem→Prop):Prop:=
Bd pg KK.gl ((1,some ⟨[AV.sc (.string a),Aa b,Aa c,Aa d,Aa e,Aa f,Aa g],26⟩)::(0,some ⟨[Aa h,Aa i],24⟩)::[]) 4 [] fun u=>
Hr u fun q=>
bif (!q) then (
A2 R ((1,some ⟨[AV.sc (.string a),Aa b,Aa c,Aa d,Aa e,Aa f,Aa g],26⟩)::(0,some ⟨[Aa h,Aa i],24⟩)::[]) [some (Ah false)]) else (
Bd pg KK.gl ((1,some ⟨[AV.sc (.string a),Aa b,Aa c,Aa d,Aa e,Aa f,Aa g],26⟩)::(0,some ⟨[Aa h,Aa i],24⟩)::[]) 5 [l,Aa (4),Aa (200)] fun v=>
Hr v fun r=>
bif (!r) then (
A2 R ((1,some ⟨[AV.sc (.string a),Aa b,Aa c,Aa d,Aa e,Aa f,Aa g],26⟩)::(0,some ⟨[Aa h,Aa i],24⟩)::[]) [some (Ah true)]) else (
Bd pg KK.gl ((1,some ⟨[AV.sc (.string a),Aa b,Aa c,Aa d,Aa e,Aa f,Aa g],26⟩)::(0,some ⟨[Aa h,Aa i],24⟩)::[]) 6 [l,Aa o,AV.agg [Aa h,Aa i],AV.sc (.string ⟨#[65,49]⟩),Aa p,AV.agg [AV.sc (.string a),Aa b,Aa c,Aa d,Aa e,Aa f,Aa g]] fun w=>
tV w fun c5 c6 c7=>
Sy c5 fun c8 c9 K5 x=>
Em c8 fun s12=>
Af c9 fun j=>
Af K5 fun k=>
Em x fun s15=>
Af c7 fun n=>
bif (n !=(0)) then (
Bo (Ed c6) fun y=>
Af y fun z=>
bif (z==(0)) then (
Bo (N8 [AV.sc (.string ⟨#[]⟩),Aa (0),Aa (0),AV.sc (.string ⟨#[]⟩)] [(0,1),(1,1),(2,1),(3,1)] []) fun aa=>
Bo (Cs pg (.binOp .eql 30 (.tmp 0) (.tmp 1) 30) 4 [AV.agg [AV.sc (.string s12),Aa j,Aa k,AV.sc (.string s15)],aa] (Am ((207,some ⟨[AV.sc (.string s12),Aa j,Aa k,AV.sc (.string s15)],30⟩)::(207,some ⟨[AV.sc (.string ⟨#[]⟩),Aa (0),Aa (0),AV.sc (.string ⟨#[]⟩)],30⟩)::(1,some ⟨[AV.sc (.string a),Aa b,Aa c,Aa d,Aa e,Aa f,Aa g],26⟩)::(0,some ⟨[Aa h,Aa i],24⟩)::[])) 219) fun ab=>
Hr ab fun ad=>
A2 R ((207,some ⟨[AV.sc (.string s12),Aa j,Aa k,AV.sc (.string s15)],30⟩)::(207,some ⟨[AV.sc (.string ⟨#[]⟩),Aa (0),Aa (0),AV.sc (.string ⟨#[]⟩)],30⟩)::(1,some ⟨[AV.sc (.string a),Aa b,Aa c,Aa d,Aa e,Aa f,Aa g],26⟩)::(0,some ⟨[Aa h,Aa i],24⟩)::[]) [some (Ah ad)]) else (
A2 R ((207,some ⟨[AV.sc (.string s12),Aa j,Aa k,AV.sc (.string s15)],30⟩)::(207,some ⟨[AV.sc (.string ⟨#[]⟩),Aa (0),Aa (0),AV.sc (.string ⟨#[]⟩)],30⟩)::(1,some ⟨[AV.sc (.string a),Aa b,Aa c,Aa d,Aa e,Aa f,Aa g],26⟩)::(0,some ⟨[Aa h,Aa i],24⟩)::[]) [some (Ah false)])) else (
Bo (Eb 1 l (Aa o)) fun s=>
Bo (Fm (Am ((207,some ⟨[AV.sc (.string s12),Aa j,Aa k,AV.sc (.string s15)],30⟩)::(207,some ⟨[AV.sc (.string ⟨#[]⟩),Aa (0),Aa (0),AV.sc (.string ⟨#[]⟩)],30⟩)::(1,some ⟨[AV.sc (.string a),Aa b,Aa c,Aa d,Aa e,Aa f,Aa g],26⟩)::(0,some ⟨[Aa h,Aa i],24⟩)::[])) s) fun t=>
Bd pg KK.gl ((207,some ⟨[AV.sc (.string s12),Aa j,Aa k,AV.sc (.string s15)],30⟩)::(207,some ⟨[AV.sc (.string ⟨#[]⟩),Aa (0),Aa (0),AV.sc (.string ⟨#[]⟩)],30⟩)::(1,some ⟨[AV.sc (.string a),Aa b,Aa c,Aa d,Aa e,Aa f,Aa g],26⟩)::(0,some ⟨[Aa h,Aa i],24⟩)::[]) 7 [AV.sc (.string ⟨#[65,49]⟩),t,Aa p,AV.agg [AV.sc (.string a),Aa b,Aa c,Aa d,Aa e,Aa f,Aa g]] fun ae=>
Fs ae fun Pn Si=>
Af Si fun m=>
bif (m !=(0)) then (
A2 R ((207,some ⟨[AV.sc (.string s12),Aa j,Aa k,AV.sc (.string s15)],30⟩)::(207,some ⟨[AV.sc (.string ⟨#[]⟩),Aa (0),Aa (0),AV.sc (.string ⟨#[]⟩)],30⟩)::(1,some ⟨[AV.sc (.string a),Aa b,Aa c,Aa d,Aa e,Aa f,Aa g],26⟩)::(0,some ⟨[Aa h,Aa i],24⟩)::[]) [some (Ah false)]) else (
Bo (Ed Pn) fun af=>
Af af fun ag=>
C6 pg KK 101 0 (.loop wN) ⟨[(0,l),(1,(Aa o)),(2,(AV.agg [Aa h,Aa i])),(3,(Aa p)),(4,(AV.agg [AV.sc (.string a),Aa b,Aa c,Aa d,Aa e,Aa f,Aa g])),(7,(AV.ptr 0 0)),(9,(AV.ptr 1 0)),(10,(Ah false)),(19,(Ah q)),(20,(Ah (!q))),(21,l),(22,(Ah r)),(23,(Ah (!r))),(25,l),(26,(Aa o)),(27,(AV.agg [Aa h,Aa i])),(28,(Aa p)),(29,(AV.agg [AV.sc (.string a),Aa b,Aa c,Aa d,Aa e,Aa f,Aa g])),(30,(AV.B4 [AV.agg [AV.sc (.string s12),Aa j,Aa k,AV.sc (.string s15)],c6,Aa n])),(24,(AV.B4 [AV.agg [AV.sc (.string s12),Aa j,Aa k,AV.sc (.string s15)],c6,Aa n])),(31,(AV.agg [AV.sc (.string s12),Aa j,Aa k,AV.sc (.string s15)])),(32,c6),(33,(Aa n)),(11,(AV.ptr 207 0)),(12,c6),(13,(Aa m)),(34,(Aa n)),(35,(Ah (n !=(0)))),(45,l),(46,(Aa o)),(47,s),(48,t),(49,(Aa p)),(50,(AV.agg [AV.sc (.string a),Aa b,Aa c,Aa d,Aa e,Aa f,Aa g])),(51,(AV.B4 [Pn,Aa m])),(44,(AV.B4 [Pn,Aa m])),(52,Pn),(53,(Aa m)),(14,Pn),(54,(Aa m)),(55,(Ah (m !=(0)))),(56,Pn),(57,(Aa ag)),(58,(Aa (0)))],((207,some ⟨[AV.sc (.string s12),Aa j,Aa k,AV.sc (.string s15)],30⟩)::(207,some ⟨[AV.sc (.string ⟨#[]⟩),Aa (0),Aa (0),AV.sc (.string ⟨#[]⟩)],30⟩)::(1,some ⟨[AV.sc (.string a),Aa b,Aa c,Aa d,Aa e,Aa f,Aa g],26⟩)::(0,some ⟨[Aa h,Aa i],24⟩)::[]),230⟩ (qY R)))))
theorem Abt (a:AV) (b c d e:Int) (f:ByteArray) (g i j k l m:Int) (R:AV→Mem→Prop) (h:F3 a b c d e f g i j k l m R):Own pg KK.gl 3 [a,Aa b,AV.agg [Aa c,Aa d],Aa e,AV.agg [AV.sc (.string f),Aa g,Aa i,Aa j,Aa k,Aa l,Aa m]] R:=Bk Ee Tryz.func3 (code:=c3) Bi Bi Bi (X:=F3 a b c d e f g i j k l m R) Bi h
noncomputable def c32:Code:=((Tryz.f32).body).getD .skip
noncomputable def q32 (R:AV→Mem→Prop):Bh→St→Prop:=C8 pg Tryz.f32 R
noncomputable def F32 (a:AV) (R:AV→Mem→Prop):Prop:=
Yb a fun c=>
bif c then (
A2 R [] [some AV.B1]) else (
Il (Vu 3 47 6 0 [Aa (0),Aa (0),Aa (0),Aa (0),Aa (0),Aa (0)] []) [] fun d b=>
Il (app (Am b) 47 6 48 [Aa (0),Aa (0),Aa (0),Aa (0),Aa (0),Aa (0)] 5 d a) b fun e f=>
A2 R f [some e])
theorem vO (a:AV) (R:AV→Mem→Prop) (h:F32 a R):Own pg KK.gl 32 [a] R:=Bk Ee Tryz.func32 (code:=c32) Bi Bi Bi (X:=F32 a R) Bi h
noncomputable def M4 (d e:Int) (a f:AV) (m:Mem) (R:AV→Mem→Prop):Prop:=
Bo (Fm (Am m) a) fun g=>
Bo (Fm (Am m) f) fun h=>
Em h fun s2=>
Bo (N8 [AV.sc (.string ⟨#[]⟩),Aa (0),Aa (0),AV.sc (.string ⟨#[]⟩)] [(0,1),(1,1),(2,1),(3,1)] [(0,(AV.sc (.string s2))),(1,(Aa d)),(2,(Aa e))]) fun i=>
Il (Vu 200018 30 4 1 [AV.sc (.string ⟨#[]⟩),Aa (0),Aa (0),AV.sc (.string ⟨#[]⟩)] [(0,i)]) m fun j b=>
Il (app (Am b) 30 4 48 [AV.sc (.string ⟨#[]⟩),Aa (0),Aa (0),AV.sc (.string ⟨#[]⟩)] 200019 g j) b fun k c=>
Cw pg (Am c) 36 a k fun l d6=>
Jj (Nat.ble 200021 200077) (A2 R (Ag c d6) [])
theorem Qi (a b:Int) (c d:AV) (m:Mem) (R:AV→Mem→Prop) (h:M4 a b c d m R):Ez pg KK.gl m 200013 24 [Aa a,Aa b,c,d] R:=Ot Ee Tryz.func24 (code:=((Tryz.f24).body).getD .skip) Bi Bi Bi (X:=M4 a b c d m R) Bi h
noncomputable def Nh (d e:Int) (a f:AV) (m:Mem) (R:AV→Mem→Prop):Prop:=
Bo (Fm (Am m) a) fun g=>
Bo (Fm (Am m) f) fun h=>
Em h fun s2=>
Bo (N8 [AV.sc (.string ⟨#[]⟩),Aa (0),Aa (0),AV.sc (.string ⟨#[]⟩)] [(0,1),(1,1),(2,1),(3,1)] [(0,(AV.sc (.string s2))),(1,(Aa d)),(2,(Aa e))]) fun i=>
Il (Vu 300020 30 4 1 [AV.sc (.string ⟨#[]⟩),Aa (0),Aa (0),AV.sc (.string ⟨#[]⟩)] [(0,i)]) m fun j b=>
Il (app (Am b) 30 4 48 [AV.sc (.string ⟨#[]⟩),Aa (0),Aa (0),AV.sc (.string ⟨#[]⟩)] 300021 g j) b fun k c=>
Cw pg (Am c) 36 a k fun l d6=>
Jj (Nat.ble 300023 300079) (A2 R (Ag c d6) [])
theorem Qj (a b:Int) (c d:AV) (m:Mem) (R:AV→Mem→Prop) (h:Nh a b c d m R):Ez pg KK.gl m 300015 24 [Aa a,Aa b,c,d] R:=Ot Ee Tryz.func24 (code:=((Tryz.f24).body).getD .skip) Bi Bi Bi (X:=Nh a b c d m R) Bi h
noncomputable def M9 (d e:Int) (a f:AV) (m:Mem) (R:AV→Mem→Prop):Prop:=
Bo (Fm (Am m) a) fun g=>
Bo (Fm (Am m) f) fun h=>
Em h fun s2=>
Bo (N8 [AV.sc (.string ⟨#[]⟩),Aa (0),Aa (0),AV.sc (.string ⟨#[]⟩)] [(0,1),(1,1),(2,1),(3,1)] [(0,(AV.sc (.string s2))),(1,(Aa d)),(2,(Aa e))]) fun i=>
Il (Vu 400074 30 4 1 [AV.sc (.string ⟨#[]⟩),Aa (0),Aa (0),AV.sc (.string ⟨#[]⟩)] [(0,i)]) m fun j b=>
Il (app (Am b) 30 4 48 [AV.sc (.string ⟨#[]⟩),Aa (0),Aa (0),AV.sc (.string ⟨#[]⟩)] 400075 g j) b fun k c=>
Cw pg (Am c) 36 a k fun l d6=>
Jj (Nat.ble 400077 400133) (A2 R (Ag c d6) [])
theorem Qf (a b:Int) (c d:AV) (m:Mem) (R:AV→Mem→Prop) (h:M9 a b c d m R):Ez pg KK.gl m 400069 24 [Aa a,Aa b,c,d] R:=Ot Ee Tryz.func24 (code:=((Tryz.f24).body).getD .skip) Bi Bi Bi (X:=M9 a b c d m R) Bi h
noncomputable def So:Code:=((Tryz.f33).body).getD .skip
noncomputable def q33 (R:AV→Mem→Prop):Bh→St→Prop:=C8 pg Tryz.f33 R
noncomputable def lW:Code:=Ey So 0
noncomputable def kZ (R:AV→Mem→Prop):Bh→St→Prop:=Ew pg KK 36 0 So 0 (q33 R)
noncomputable def Aar (R:AV→Mem→Prop) (N0:St→Prop):Bh→St→Prop:=Ex N0 (kZ R)
def bG (a b:AV) (c:Int) (d:AV) (e f:Int) (m:Mem):St:=⟨[(0,a),(2,b),(3,(Aa c)),(9,d),(10,(Aa e)),(11,(Aa f))],m,100000⟩
noncomputable def nJ:Code:=Ey So 1
noncomputable def kE (R:AV→Mem→Prop):Bh→St→Prop:=Ew pg KK 36 0 So 1 (q33 R)
noncomputable def Aaf (R:AV→Mem→Prop) (N0:St→Prop):Bh→St→Prop:=Ex N0 (kE R)
def eX (a b c:AV) (d e:Int) (m:Mem):St:=⟨[(2,a),(6,b),(25,c),(26,(Aa d)),(27,(Aa e))],m,200000⟩
noncomputable def bF (f h:AV) (a:Int) (g:AV) (d c:Int) (m:Mem) (R:AV→Mem→Prop) (N0:St→Prop):Prop:=
bif (decide (c<d)) then (
Bo (Eb 1 g (Aa c)) fun i=>
Bo (Fm (Am m) i) fun e=>
Bo (Ed e) fun l=>
Af l fun b=>
bif (decide ((IntKind.wrap .i64 (a+b))<(0))) then (
Bo (Cs pg (.makeInterface 9 (.tmp 0)) 20 [AV.sc (.string ⟨#[108,101,110,32,111,117,116,32,111,102,32,114,97,110,103,101]⟩)] (Am m) 100011) fun j=>
Bo (Cs pg (.panic (.tmp 0)) 0 [j] (Am m) 100012) fun q=>
N0 ⟨[(0,f),(2,h),(3,(Aa (IntKind.wrap .i64 (a+b)))),(9,g),(10,(Aa d)),(11,(Aa (IntKind.wrap .i64 (c+(1))))),(12,(Ah (decide (c<d)))),(13,i),(14,e),(5,e),(15,(Aa a)),(16,e),(17,(Aa b)),(18,(Aa (IntKind.wrap .i64 (a+b)))),(19,(Aa (IntKind.wrap .i64 (a+b)))),(20,(Ah (decide ((IntKind.wrap .i64 (a+b))<(0))))),(21,j),(22,(Aa (IntKind.wrap .i64 (c+(1)))))],m,100015⟩) else (
N0 ⟨[(0,f),(2,h),(3,(Aa (IntKind.wrap .i64 (a+b)))),(9,g),(10,(Aa d)),(11,(Aa (IntKind.wrap .i64 (c+(1))))),(12,(Ah (decide (c<d)))),(13,i),(14,e),(5,e),(15,(Aa a)),(16,e),(17,(Aa b)),(18,(Aa (IntKind.wrap .i64 (a+b)))),(19,(Aa (IntKind.wrap .i64 (a+b)))),(20,(Ah (decide ((IntKind.wrap .i64 (a+b))<(0))))),(22,(Aa (IntKind.wrap .i64 (c+(1)))))],m,100013⟩)) else (
Ez pg KK.gl m 100002 48 [AV.B1,Aa a] fun k n=>
Bo (Ed f) fun o=>
Af o fun p=>
C6 pg KK 36 0 (.loop nJ) ⟨[(0,f),(2,h),(3,(Aa a)),(9,g),(10,(Aa d)),(11,(Aa c)),(12,(Ah (decide (c<d)))),(23,(Aa a)),(24,k),(6,k),(25,f),(26,(Aa p)),(27,(Aa (0)))],n,100070⟩ (kE R))
theorem nZ (a b:AV) (c:Int) (d:AV) (e f:Int) (m:Mem) (R:AV→Mem→Prop) (N0:St→Prop):W pg KK 36 0 lW (bG a b c d e f m) (Aar R N0)=bF a b c d e f m R N0:=by kernel_rfl
theorem Ae5 (R:AV→Mem→Prop) {σ:Type} (I:σ→Prop) (a b:σ→AV) (c:σ→Int) (d:σ→AV) (e f:σ→Int) (m:σ→Mem) (μ:σ→Nat) (step:∀x,I x→bF (a x) (b x) (c x) (d x) (e x) (f x) (m x) R (fun s'=>∃y,I y∧μ y<μ x∧Cl KK 36 0 s' (bG (a y) (b y) (c y) (d y) (e y) (f y) (m y)))) (x:σ) (hx:I x) {s:St} (hw:Cl KK 36 0 s (bG (a x) (b x) (c x) (d x) (e x) (f x) (m x))):C6 pg KK 36 0 (.loop lW) s (kZ R):=
 C6.He hw (C6.loops Ee I (fun x=>bG (a x) (b x) (c x) (d x) (e x) (f x) (m x)) μ (fun x hx=>(nZ (a x) (b x) (c x) (d x) (e x) (f x) (m x) R _).mpr (step x hx)) x hx)
noncomputable def Tr (h c e:AV) (d a:Int) (m:Mem) (R:AV→Mem→Prop) (N0:St→Prop):Prop:=
bif (decide (a<d)) then (
Bo (Eb 1 e (Aa a)) fun f=>
Bo (Fm (Am m) f) fun b=>
Il (app (Am m) 47 6 48 [Aa (0),Aa (0),Aa (0),Aa (0),Aa (0),Aa (0)] 200006 c b) m fun g i=>
N0 ⟨[(2,h),(6,g),(25,e),(26,(Aa d)),(27,(Aa (IntKind.wrap .i64 (a+(1))))),(28,(Ah (decide (a<d)))),(29,f),(30,b),(8,b),(31,c),(32,b),(33,g),(34,(Aa (IntKind.wrap .i64 (a+(1)))))],i,200010⟩) else (
A2 R m [some c])
theorem mI (a b c:AV) (d e:Int) (m:Mem) (R:AV→Mem→Prop) (N0:St→Prop):W pg KK 36 0 nJ (eX a b c d e m) (Aaf R N0)=Tr a b c d e m R N0:=by kernel_rfl
theorem xQ (R:AV→Mem→Prop) {σ:Type} (I:σ→Prop) (a b c:σ→AV) (d e:σ→Int) (m:σ→Mem) (μ:σ→Nat) (step:∀x,I x→Tr (a x) (b x) (c x) (d x) (e x) (m x) R (fun s'=>∃y,I y∧μ y<μ x∧Cl KK 36 0 s' (eX (a y) (b y) (c y) (d y) (e y) (m y)))) (x:σ) (hx:I x) {s:St} (hw:Cl KK 36 0 s (eX (a x) (b x) (c x) (d x) (e x) (m x))):C6 pg KK 36 0 (.loop nJ) s (kE R):=
 C6.He hw (C6.loops Ee I (fun x=>eX (a x) (b x) (c x) (d x) (e x) (m x)) μ (fun x hx=>(mI (a x) (b x) (c x) (d x) (e x) (m x) R _).mpr (step x hx)) x hx)
noncomputable def F33 (a:AV) (R:AV→Mem→Prop):Prop:=
Bo (Ed a) fun b=>
Af b fun c=>
C6 pg KK 36 0 (.loop lW) ⟨[(0,a),(2,AV.B1),(3,(Aa (0))),(9,a),(10,(Aa c)),(11,(Aa (0)))],[],5⟩ (kZ R)
theorem o7 (a:AV) (R:AV→Mem→Prop) (h:F33 a R):Own pg KK.gl 33 [a] R:=Bk Ee Tryz.func33 (code:=So) Bi Bi Bi (X:=F33 a R) Bi h
noncomputable def c48:Code:=((Tryz.f48).body).getD .skip
noncomputable def q48 (R:AV→Mem→Prop):Bh→St→Prop:=C8 pg Tryz.f48 R
noncomputable def F48 (a:AV) (b:Int) (R:AV→Mem→Prop):Prop:=
bif (decide (b<(0))) then (
Bo (Cs pg (.makeInterface 9 (.tmp 0)) 20 [AV.sc (.string ⟨#[99,97,110,110,111,116,32,98,101,32,110,101,103,97,116,105,118,101]⟩)] (Am []) 3) fun i=>
Bo (Cs pg (.panic (.tmp 0)) 0 [i] (Am []) 4) fun v1=>
Bo (Cs pg (.call ⟨.builtin .cap,#[.tmp 0],#[32]⟩) 3 [a] (Am []) 7) fun j=>
Af j fun c=>
Bo (Ed a) fun k=>
Af k fun d=>
bif (decide ((IntKind.wrap .i64 (b-(IntKind.wrap .i64 (c-d))))>(0))) then (
Bo (Cs pg (.call ⟨.builtin .cap,#[.tmp 0],#[32]⟩) 3 [a] (Am []) 17) fun l=>
Af l fun m=>
Bo (Cs pg (.slice 32 (.tmp 0) none (some (.tmp 1)) none) 32 [a,Aa m] (Am []) 18) fun n=>
Il (Cs pg (.call ⟨.builtin .append,#[.tmp 0,.tmp 1],#[32,3]⟩) 32 [n,Aa (IntKind.wrap .i64 (b-(IntKind.wrap .i64 (c-d))))] (Am []) 20) [] fun o e=>
Bo (Ed a) fun p=>
Af p fun q=>
Bo (Cs pg (.slice 32 (.tmp 0) none (some (.tmp 1)) none) 32 [o,Aa q] (Am e) 23) fun r=>
A2 R e [some r]) else (
A2 R [] [some a])) else (
Bo (Cs pg (.call ⟨.builtin .cap,#[.tmp 0],#[32]⟩) 3 [a] (Am []) 5) fun s=>
Af s fun f=>
Bo (Ed a) fun t=>
Af t fun g=>
bif (decide ((IntKind.wrap .i64 (b-(IntKind.wrap .i64 (f-g))))>(0))) then (
Bo (Cs pg (.call ⟨.builtin .cap,#[.tmp 0],#[32]⟩) 3 [a] (Am []) 15) fun u=>
Af u fun v=>
Bo (Cs pg (.slice 32 (.tmp 0) none (some (.tmp 1)) none) 32 [a,Aa v] (Am []) 16) fun w=>
Il (Cs pg (.call ⟨.builtin .append,#[.tmp 0,.tmp 1],#[32,3]⟩) 32 [w,Aa (IntKind.wrap .i64 (b-(IntKind.wrap .i64 (f-g))))] (Am []) 18) [] fun x h=>
Bo (Ed a) fun y=>
Af y fun z=>
Bo (Cs pg (.slice 32 (.tmp 0) none (some (.tmp 1)) none) 32 [x,Aa z] (Am h) 21) fun aa=>
A2 R h [some aa]) else (
A2 R [] [some a]))
theorem dZ (a:AV) (b:Int) (R:AV→Mem→Prop) (h:F48 a b R):Own pg KK.gl 48 [a,Aa b] R:=Bk Ee Tryz.func48 (code:=c48) Bi Bi Bi (X:=F48 a b R) Bi h
noncomputable def bV (d:AV) (a:Int) (e:AV) (m:Mem) (R:AV→Mem→Prop):Prop:=
Bo (Cs pg (.slice 32 (.tmp 0) (some (.tmp 1)) none none) 32 [d,Aa a] (Am m) 4) fun v0=>
Bo (Ed e) fun p=>
Af p fun b=>
bif (b==(0)) then (
A2 R m [some d]) else (
Bo (Ed d) fun q=>
Af q fun f=>
bif (a==f) then (
Il (app (Am m) 47 6 48 [Aa (0),Aa (0),Aa (0),Aa (0),Aa (0),Aa (0)] 18 d e) m fun r s=>
A2 R s [some r]) else (
Bo (Cs pg (.call ⟨.builtin .cap,#[.tmp 0],#[32]⟩) 3 [d] (Am m) 20) fun t=>
Af t fun u=>
bif (decide ((IntKind.wrap .i64 (f+b))>u)) then (
Bo (Cs pg (.slice 32 (.tmp 0) none (some (.tmp 1)) none) 32 [d,Aa a] (Am m) 24) fun v=>
Il (Cs pg (.call ⟨.builtin .append,#[.tmp 0,.tmp 1],#[32,3]⟩) 32 [v,Aa (IntKind.wrap .i64 ((IntKind.wrap .i64 (f+b))-a))] (Am m) 30) m fun g i=>
Bo (Cs pg (.slice 32 (.tmp 0) (some (.tmp 1)) none none) 32 [g,Aa a] (Am i) 34) fun w=>
Il (Cs pg (.call ⟨.builtin .copy,#[.tmp 0,.tmp 1],#[32,31]⟩) 3 [w,e] (Am i) 36) i fun x h=>
Af x fun am=>
J4 (Cs pg (.slice 32 (.tmp 0) (some (.tmp 1)) none none) 32 [g,Aa (IntKind.wrap .i64 (a+b))] (Dw h (Bv g++(Bv (Aa (IntKind.wrap .i64 (a+b)))++([])))) 41) fun j d13=>
J4 (Cs pg (.slice 32 (.tmp 0) (some (.tmp 1)) none none) 32 [d,Aa a] (Dw (Ag h d13) (Bv d++(Bv (Aa a)++([])))) 44) fun k d14=>
J4 (Cs pg (.call ⟨.builtin .copy,#[.tmp 0,.tmp 1],#[32,32]⟩) 3 [j,k] (Dw (Ag (Ag h d13) d14) (Bv j++(Bv k++([])))) 45) fun y d15=>
Af y fun an=>
Jj (F4 [0,0,0,6,15,0,0,96,255] [⟨[],[]⟩,⟨[],[]⟩,⟨[],[]⟩,⟨[],[]⟩,⟨d13,Bv g++(Bv (Aa (IntKind.wrap .i64 (a+b)))++([]))⟩,⟨[],[]⟩,⟨[],[]⟩,⟨d14,Bv d++(Bv (Aa a)++([]))⟩,⟨d15,Bv j++(Bv k++([]))⟩]) (A2 R (Ag (Ag (Ag h d13) d14) d15) [some g])) else (
Bo (Cs pg (.slice 32 (.tmp 0) none (some (.tmp 1)) none) 32 [d,Aa (IntKind.wrap .i64 (f+b))] (Am m) 26) fun c=>
Bo (Cs pg (.slice 32 (.tmp 0) (some (.tmp 1)) none none) 32 [c,Aa (IntKind.wrap .i64 (a+b))] (Am m) 33) fun z=>
Bd pg KK.gl m 79 [e,z] fun aa=>
Hr aa fun ab=>
bif (!ab) then (
J4 (Cs pg (.slice 32 (.tmp 0) (some (.tmp 1)) none none) 32 [c,Aa (IntKind.wrap .i64 (a+b))] (Dw m (Bv c++(Bv (Aa (IntKind.wrap .i64 (a+b)))++([])))) 103) fun l d21=>
J4 (Cs pg (.slice 32 (.tmp 0) (some (.tmp 1)) none none) 32 [c,Aa a] (Dw (Ag m d21) (Bv c++(Bv (Aa a)++([])))) 106) fun n d22=>
J4 (Cs pg (.call ⟨.builtin .copy,#[.tmp 0,.tmp 1],#[32,32]⟩) 3 [l,n] (Dw (Ag (Ag m d21) d22) (Bv l++(Bv n++([])))) 107) fun ad d23=>
Af ad fun ao=>
Jj (F4 [0,0,0,6,15,0,0,96,255] [⟨[],[]⟩,⟨[],[]⟩,⟨[],[]⟩,⟨[],[]⟩,⟨d21,Bv c++(Bv (Aa (IntKind.wrap .i64 (a+b)))++([]))⟩,⟨[],[]⟩,⟨[],[]⟩,⟨d22,Bv c++(Bv (Aa a)++([]))⟩,⟨d23,Bv l++(Bv n++([]))⟩]) (Bo (Cs pg (.slice 32 (.tmp 0) (some (.tmp 1)) none none) 32 [c,Aa a] (Am (Ag (Ag (Ag m d21) d22) d23)) 110) fun ae=>
Il (Cs pg (.call ⟨.builtin .copy,#[.tmp 0,.tmp 1],#[32,31]⟩) 3 [ae,e] (Am (Ag (Ag (Ag m d21) d22) d23)) 112) (Ag (Ag (Ag m d21) d22) d23) fun af ag=>
Af af fun ap=>
A2 R ag [some c])) else (
Bo (Cs pg (.slice 32 (.tmp 0) (some (.tmp 1)) none none) 32 [c,Aa f] (Am m) 101) fun ah=>
Il (Cs pg (.call ⟨.builtin .copy,#[.tmp 0,.tmp 1],#[32,31]⟩) 3 [ah,e] (Am m) 103) m fun ai o=>
Af ai fun aq=>
Bo (Cs pg (.slice 32 (.tmp 0) (some (.tmp 1)) none none) 32 [c,Aa a] (Am o) 106) fun aj=>
Ez pg KK.gl o 108 80 [aj,Aa b] fun ak al=>
X5 ak<|
A2 R al [some c]))))
theorem aX (a:AV) (b:Int) (c:AV) (m:Mem) (R:AV→Mem→Prop) (h:bV a b c m R):Rb pg KK.gl m 1 65 [a,Aa b,c] R:=Rm Ee Tryz.func65 (code:=((Tryz.f65).body).getD .skip) Bi Bi Bi (X:=bV a b c m R) Bi h
noncomputable def bX (d:AV) (a:Int) (e:AV) (m:Mem) (R:AV→Mem→Prop):Prop:=
Bo (Cs pg (.slice 32 (.tmp 0) (some (.tmp 1)) none none) 32 [d,Aa a] (Am m) 5) fun v0=>
Bo (Ed e) fun p=>
Af p fun b=>
bif (b==(0)) then (
A2 R m [some d]) else (
Bo (Ed d) fun q=>
Af q fun f=>
bif (a==f) then (
Il (app (Am m) 47 6 48 [Aa (0),Aa (0),Aa (0),Aa (0),Aa (0),Aa (0)] 19 d e) m fun r s=>
A2 R s [some r]) else (
Bo (Cs pg (.call ⟨.builtin .cap,#[.tmp 0],#[32]⟩) 3 [d] (Am m) 21) fun t=>
Af t fun u=>
bif (decide ((IntKind.wrap .i64 (f+b))>u)) then (
Bo (Cs pg (.slice 32 (.tmp 0) none (some (.tmp 1)) none) 32 [d,Aa a] (Am m) 25) fun v=>
Il (Cs pg (.call ⟨.builtin .append,#[.tmp 0,.tmp 1],#[32,3]⟩) 32 [v,Aa (IntKind.wrap .i64 ((IntKind.wrap .i64 (f+b))-a))] (Am m) 31) m fun g i=>
Bo (Cs pg (.slice 32 (.tmp 0) (some (.tmp 1)) none none) 32 [g,Aa a] (Am i) 35) fun w=>
Il (Cs pg (.call ⟨.builtin .copy,#[.tmp 0,.tmp 1],#[32,31]⟩) 3 [w,e] (Am i) 37) i fun x h=>
Af x fun am=>
J4 (Cs pg (.slice 32 (.tmp 0) (some (.tmp 1)) none none) 32 [g,Aa (IntKind.wrap .i64 (a+b))] (Dw h (Bv g++(Bv (Aa (IntKind.wrap .i64 (a+b)))++([])))) 42) fun j d13=>
J4 (Cs pg (.slice 32 (.tmp 0) (some (.tmp 1)) none none) 32 [d,Aa a] (Dw (Ag h d13) (Bv d++(Bv (Aa a)++([])))) 45) fun k d14=>
J4 (Cs pg (.call ⟨.builtin .copy,#[.tmp 0,.tmp 1],#[32,32]⟩) 3 [j,k] (Dw (Ag (Ag h d13) d14) (Bv j++(Bv k++([])))) 46) fun y d15=>
Af y fun an=>
Jj (F4 [0,0,0,6,15,0,0,96,255] [⟨[],[]⟩,⟨[],[]⟩,⟨[],[]⟩,⟨[],[]⟩,⟨d13,Bv g++(Bv (Aa (IntKind.wrap .i64 (a+b)))++([]))⟩,⟨[],[]⟩,⟨[],[]⟩,⟨d14,Bv d++(Bv (Aa a)++([]))⟩,⟨d15,Bv j++(Bv k++([]))⟩]) (A2 R (Ag (Ag (Ag h d13) d14) d15) [some g])) else (
Bo (Cs pg (.slice 32 (.tmp 0) none (some (.tmp 1)) none) 32 [d,Aa (IntKind.wrap .i64 (f+b))] (Am m) 27) fun c=>
Bo (Cs pg (.slice 32 (.tmp 0) (some (.tmp 1)) none none) 32 [c,Aa (IntKind.wrap .i64 (a+b))] (Am m) 34) fun z=>
Bd pg KK.gl m 79 [e,z] fun aa=>
Hr aa fun ab=>
bif (!ab) then (
J4 (Cs pg (.slice 32 (.tmp 0) (some (.tmp 1)) none none) 32 [c,Aa (IntKind.wrap .i64 (a+b))] (Dw m (Bv c++(Bv (Aa (IntKind.wrap .i64 (a+b)))++([])))) 104) fun l d21=>
J4 (Cs pg (.slice 32 (.tmp 0) (some (.tmp 1)) none none) 32 [c,Aa a] (Dw (Ag m d21) (Bv c++(Bv (Aa a)++([])))) 107) fun n d22=>
J4 (Cs pg (.call ⟨.builtin .copy,#[.tmp 0,.tmp 1],#[32,32]⟩) 3 [l,n] (Dw (Ag (Ag m d21) d22) (Bv l++(Bv n++([])))) 108) fun ad d23=>
Af ad fun ao=>
Jj (F4 [0,0,0,6,15,0,0,96,255] [⟨[],[]⟩,⟨[],[]⟩,⟨[],[]⟩,⟨[],[]⟩,⟨d21,Bv c++(Bv (Aa (IntKind.wrap .i64 (a+b)))++([]))⟩,⟨[],[]⟩,⟨[],[]⟩,⟨d22,Bv c++(Bv (Aa a)++([]))⟩,⟨d23,Bv l++(Bv n++([]))⟩]) (Bo (Cs pg (.slice 32 (.tmp 0) (some (.tmp 1)) none none) 32 [c,Aa a] (Am (Ag (Ag (Ag m d21) d22) d23)) 111) fun ae=>
Il (Cs pg (.call ⟨.builtin .copy,#[.tmp 0,.tmp 1],#[32,31]⟩) 3 [ae,e] (Am (Ag (Ag (Ag m d21) d22) d23)) 113) (Ag (Ag (Ag m d21) d22) d23) fun af ag=>
Af af fun ap=>
A2 R ag [some c])) else (
Bo (Cs pg (.slice 32 (.tmp 0) (some (.tmp 1)) none none) 32 [c,Aa f] (Am m) 102) fun ah=>
Il (Cs pg (.call ⟨.builtin .copy,#[.tmp 0,.tmp 1],#[32,31]⟩) 3 [ah,e] (Am m) 104) m fun ai o=>
Af ai fun aq=>
Bo (Cs pg (.slice 32 (.tmp 0) (some (.tmp 1)) none none) 32 [c,Aa a] (Am o) 107) fun aj=>
Ez pg KK.gl o 109 80 [aj,Aa b] fun ak al=>
X5 ak<|
A2 R al [some c]))))
theorem Z6 (a:AV) (b:Int) (c:AV) (m:Mem) (R:AV→Mem→Prop) (h:bX a b c m R):Rb pg KK.gl m 2 65 [a,Aa b,c] R:=Rm Ee Tryz.func65 (code:=((Tryz.f65).body).getD .skip) Bi Bi Bi (X:=bX a b c m R) Bi h
end Go.Proofs.YtmhnnmfcjdnlhaaGreatDoor
