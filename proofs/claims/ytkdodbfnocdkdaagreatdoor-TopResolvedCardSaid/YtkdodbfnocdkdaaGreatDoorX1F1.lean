/- A part. -/
import Derived.Test.YtkdodbfnocdkdaaGreatDoorX1T
set_option linter.unusedVariables false
set_option maxRecDepth 100000
set_option maxHeartbeats 4000000
namespace Go.Proofs.YtkdodbfnocdkdaaGreatDoor
noncomputable def Akw:Code:=((Tryz.f15).body).getD .skip
noncomputable def Ark (R:AV→Mem→Prop):A1→St→Prop:=Cm pg Tryz.f15 R
noncomputable def Ak8:Code:=Dy Akw 0
noncomputable def sV (R:AV→Mem→Prop):A1→St→Prop:=Dz pg KK 42 0 Akw 0 (Ark R)
noncomputable def Aql (R:AV→Mem→Prop) (N0:St→Prop):A1→St→Prop:=Dw N0 (sV R)
def Aig (a b c:AV) (d e:Int) (m:Mem):St:=⟨[(0,a),(1,b),(4,c),(5,(Aa d)),(6,(Aa e))],m,100000⟩
noncomputable def yF (b i l:AV) (g a:Int) (m:Mem) (R:AV→Mem→Prop) (N0:St→Prop):Prop:=
A4 (Da b) fun x=>
Ag x fun j=>
bif (decide (a<j)) then (
A4 (De 4 b (Aa a)) fun k=>
A4 (Hj (Al m) 4 k) fun y=>
Hz y fun c6 c7 c8 c9=>
Ag c6 fun c=>
Ag c7 fun d=>
Ag c8 fun e=>
Ag c9 fun f=>
H7 (some i) (some [AV.agg [Aa c,Aa d,Aa e,Aa f]]) fun f14 p=>bif KK.pm f14 then A2 pg KK.gl ((100008,some ⟨[Aa c,Aa d,Aa e,Aa f],53⟩)::(100008,some ⟨[Aa (0),Aa (0),Aa (0),Aa (0)],53⟩)::m) f14 p (fun o=>
Ha o fun h=>
bif (!h) then (
A4 (De 4 b (Aa g)) fun q=>
B4 pg (Al ((100008,some ⟨[Aa c,Aa d,Aa e,Aa f],53⟩)::(100008,some ⟨[Aa (0),Aa (0),Aa (0),Aa (0)],53⟩)::m)) 53 q (AV.agg [Aa c,Aa d,Aa e,Aa f]) fun ai d17=>
N0 ⟨[(0,b),(1,i),(4,l),(5,(Aa (IntKind.wrap .i64 (g+(1))))),(6,(Aa (IntKind.wrap .i64 (a+(1))))),(16,(Aa a)),(17,b),(18,(Aa j)),(19,(Ai (decide (a<j)))),(22,b),(23,(Aa a)),(24,k),(25,(AV.agg [Aa c,Aa d,Aa e,Aa f])),(7,(AV.ptr 100008 0)),(26,i),(27,(AV.agg [Aa c,Aa d,Aa e,Aa f])),(28,(Ai h)),(29,(Ai (!h))),(30,b),(31,(Aa g)),(32,(AV.agg [Aa c,Aa d,Aa e,Aa f])),(33,q),(34,(Aa g)),(35,(Aa (IntKind.wrap .i64 (g+(1))))),(20,(Aa a)),(21,(Aa (IntKind.wrap .i64 (a+(1)))))],Ad ((100008,some ⟨[Aa c,Aa d,Aa e,Aa f],53⟩)::(100008,some ⟨[Aa (0),Aa (0),Aa (0),Aa (0)],53⟩)::m) d17,100088⟩) else (
N0 ⟨[(0,b),(1,i),(4,l),(5,(Aa g)),(6,(Aa (IntKind.wrap .i64 (a+(1))))),(16,(Aa a)),(17,b),(18,(Aa j)),(19,(Ai (decide (a<j)))),(22,b),(23,(Aa a)),(24,k),(25,(AV.agg [Aa c,Aa d,Aa e,Aa f])),(7,(AV.ptr 100008 0)),(26,i),(27,(AV.agg [Aa c,Aa d,Aa e,Aa f])),(28,(Ai h)),(29,(Ai (!h))),(20,(Aa a)),(21,(Aa (IntKind.wrap .i64 (a+(1)))))],((100008,some ⟨[Aa c,Aa d,Aa e,Aa f],53⟩)::(100008,some ⟨[Aa (0),Aa (0),Aa (0),Aa (0)],53⟩)::m),100080⟩)) else C1 pg KK.gl ((100008,some ⟨[Aa c,Aa d,Aa e,Aa f],53⟩)::(100008,some ⟨[Aa (0),Aa (0),Aa (0),Aa (0)],53⟩)::m) 100012 f14 p fun o n=>
Ha o fun h=>
bif (!h) then (
A4 (Hj (Al n) 4 (AV.ptr 100008 0)) fun z=>
Hz z fun aa ab ad ae=>
Ag aa fun r=>
Ag ab fun s=>
Ag ad fun t=>
Ag ae fun u=>
A4 (De 4 b (Aa g)) fun v=>
B4 pg (Al n) 53 v (AV.agg [Aa r,Aa s,Aa t,Aa u]) fun aj d28=>
N0 ⟨[(0,b),(1,i),(4,l),(5,(Aa (IntKind.wrap .i64 (g+(1))))),(6,(Aa (IntKind.wrap .i64 (a+(1))))),(16,(Aa a)),(17,b),(18,(Aa j)),(19,(Ai (decide (a<j)))),(22,b),(23,(Aa a)),(24,k),(25,(AV.agg [Aa c,Aa d,Aa e,Aa f])),(7,(AV.ptr 100008 0)),(26,i),(27,(AV.agg [Aa c,Aa d,Aa e,Aa f])),(28,(Ai h)),(29,(Ai (!h))),(30,b),(31,(Aa g)),(32,(AV.agg [Aa r,Aa s,Aa t,Aa u])),(33,v),(34,(Aa g)),(35,(Aa (IntKind.wrap .i64 (g+(1))))),(20,(Aa a)),(21,(Aa (IntKind.wrap .i64 (a+(1)))))],Ad n d28,100088⟩) else (
N0 ⟨[(0,b),(1,i),(4,l),(5,(Aa g)),(6,(Aa (IntKind.wrap .i64 (a+(1))))),(16,(Aa a)),(17,b),(18,(Aa j)),(19,(Ai (decide (a<j)))),(22,b),(23,(Aa a)),(24,k),(25,(AV.agg [Aa c,Aa d,Aa e,Aa f])),(7,(AV.ptr 100008 0)),(26,i),(27,(AV.agg [Aa c,Aa d,Aa e,Aa f])),(28,(Ai h)),(29,(Ai (!h))),(20,(Aa a)),(21,(Aa (IntKind.wrap .i64 (a+(1)))))],n,100080⟩)) else (
A4 (Ce pg (.slice 47 (.tmp 0) (some (.tmp 1)) none none) 47 [b,Aa g] (Al m) 100006) fun af=>
Hi (Ce pg (.call ⟨.builtin .clear,#[.tmp 0],#[47]⟩) 0 [af] (Al m) 100007) m fun ag w=>
Rr ag<|
A4 (Ce pg (.slice 47 (.tmp 0) none (some (.tmp 1)) none) 47 [b,Aa g] (Al w) 100010) fun ah=>
As R w [some ah])
noncomputable def Adt (b c:AV) (d:Mem) (R:AV→Mem→Prop):Prop:=
A2 pg KK.gl d 70 [b,c] fun e=>
Ag e fun a=>
bif (a==(-1)) then (
As R d [some b]) else (
Ff pg KK 42 0 (.loop Ak8) ⟨[(0,b),(1,c),(4,AV.Bg),(8,b),(9,c),(10,(Aa a)),(5,(Aa a)),(11,(Aa a)),(12,(Ai (a==(-1)))),(14,(Aa a)),(15,(Aa (IntKind.wrap .i64 (a+(1))))),(6,(Aa (IntKind.wrap .i64 (a+(1)))))],d,74⟩ (sV R))
theorem pO (a b:AV) (c:Mem) (R:AV→Mem→Prop) (h:Adt a b c R):Pb pg KK.gl c 1 15 [a,b] R:=P0 Re Tryz.func15 (code:=Akw) B7 B7 B7 (X:=Adt a b c R) B7 h
noncomputable def c64:Code:=((Tryz.f64).body).getD .skip
noncomputable def q64 (R:AV→Mem→Prop):A1→St→Prop:=Cm pg Tryz.f64 R
noncomputable def F64 (a b:Int) (R:AV→Mem→Prop):Prop:=
bif (decide (a<(0))) then (
As R ((0,some ⟨[Aa a,Aa b],24⟩)::[]) [some (Aa (4))]) else (
bif (decide (a>(1000000))) then (
As R ((0,some ⟨[Aa a,Aa b],24⟩)::[]) [some (Aa (4))]) else (
bif (decide (b<(0))) then (
As R ((0,some ⟨[Aa a,Aa b],24⟩)::[]) [some (Aa (4))]) else (
bif (decide (b>(60000))) then (
As R ((0,some ⟨[Aa a,Aa b],24⟩)::[]) [some (Aa (4))]) else (
As R ((0,some ⟨[Aa a,Aa b],24⟩)::[]) [some (Aa (0))]))))
noncomputable def c59:Code:=((Tryz.f59).body).getD .skip
noncomputable def q59 (R:AV→Mem→Prop):A1→St→Prop:=Cm pg Tryz.f59 R
noncomputable def F59 (a b:Int) (R:AV→Mem→Prop):Prop:=
bif (decide (a<(-1000000))) then (
As R ((0,some ⟨[Aa a,Aa b],46⟩)::[]) [some (Aa (4))]) else (
bif (decide (a>(1000000))) then (
As R ((0,some ⟨[Aa a,Aa b],46⟩)::[]) [some (Aa (4))]) else (
bif (decide (b<(-1000000))) then (
As R ((0,some ⟨[Aa a,Aa b],46⟩)::[]) [some (Aa (4))]) else (
bif (decide (b>(1000000))) then (
As R ((0,some ⟨[Aa a,Aa b],46⟩)::[]) [some (Aa (4))]) else (
As R ((0,some ⟨[Aa a,Aa b],46⟩)::[]) [some (Aa (0))]))))
noncomputable def c42:Code:=((Tryz.f42).body).getD .skip
noncomputable def q42 (R:AV→Mem→Prop):A1→St→Prop:=Cm pg Tryz.f42 R
noncomputable def Ao7:Code:=Dy c42 0
noncomputable def Afm (R:AV→Mem→Prop):A1→St→Prop:=Dz pg KK 86 0 c42 0 (q42 R)
noncomputable def As3 (R:AV→Mem→Prop) (N0:St→Prop):A1→St→Prop:=Dw N0 (Afm R)
def Amk (a:AV) (b:Int) (c:AV) (d e:Int) (m:Mem):St:=⟨[(0,a),(2,(Aa b)),(14,c),(15,(Aa d)),(16,(Aa e))],m,100000⟩
noncomputable def Afh (l:AV) (p:Int) (n:AV) (j g:Int) (m:Mem) (R:AV→Mem→Prop) (N0:St→Prop):Prop:=
bif (decide (g<j)) then (
A4 (De 6 n (Aa g)) fun o=>
A4 (Hj (Al m) 6 o) fun t=>
Kx t fun c8 c9 O2 Kj c12 Wm=>
Ag c8 fun a=>
Ag c9 fun e=>
Ag O2 fun f=>
Ag Kj fun d=>
Ag c12 fun b=>
Ag Wm fun c=>
bif (decide (a<(0))) then (
As R ((100004,some ⟨[Aa a,Aa e,Aa f,Aa d,Aa b,Aa c],135⟩)::(100004,some ⟨[Aa (0),Aa (0),Aa (0),Aa (0),Aa (0),Aa (0)],135⟩)::m) [some (Aa (12))]) else (
bif (decide (a>(200000))) then (
As R ((100004,some ⟨[Aa a,Aa e,Aa f,Aa d,Aa b,Aa c],135⟩)::(100004,some ⟨[Aa (0),Aa (0),Aa (0),Aa (0),Aa (0),Aa (0)],135⟩)::m) [some (Aa (12))]) else (
bif (decide (g>(0))) then (
A4 (De 6 l (Aa (IntKind.wrap .i64 (g-(1))))) fun q=>
A4 (Eo 0 q) fun r=>
A4 (Eo 0 r) fun s=>
A4 (Ek (Al ((100004,some ⟨[Aa a,Aa e,Aa f,Aa d,Aa b,Aa c],135⟩)::(100004,some ⟨[Aa (0),Aa (0),Aa (0),Aa (0),Aa (0),Aa (0)],135⟩)::m)) s) fun u=>
Ag u fun k=>
bif (decide (a≤k)) then (
As R ((100004,some ⟨[Aa a,Aa e,Aa f,Aa d,Aa b,Aa c],135⟩)::(100004,some ⟨[Aa (0),Aa (0),Aa (0),Aa (0),Aa (0),Aa (0)],135⟩)::m) [some (Aa (12))]) else (
A2 pg KK.gl ((100004,some ⟨[Aa a,Aa e,Aa f,Aa d,Aa b,Aa c],135⟩)::(100004,some ⟨[Aa (0),Aa (0),Aa (0),Aa (0),Aa (0),Aa (0)],135⟩)::m) 59 [AV.agg [Aa e,Aa f]] fun v=>
Ag v fun h=>
bif (h !=(0)) then (
As R ((100004,some ⟨[Aa a,Aa e,Aa f,Aa d,Aa b,Aa c],135⟩)::(100004,some ⟨[Aa (0),Aa (0),Aa (0),Aa (0),Aa (0),Aa (0)],135⟩)::m) [some (Aa h)]) else (
bif (decide (d<(0))) then (
As R ((100004,some ⟨[Aa a,Aa e,Aa f,Aa d,Aa b,Aa c],135⟩)::(100004,some ⟨[Aa (0),Aa (0),Aa (0),Aa (0),Aa (0),Aa (0)],135⟩)::m) [some (Aa (4))]) else (
bif (decide (d>(60000))) then (
As R ((100004,some ⟨[Aa a,Aa e,Aa f,Aa d,Aa b,Aa c],135⟩)::(100004,some ⟨[Aa (0),Aa (0),Aa (0),Aa (0),Aa (0),Aa (0)],135⟩)::m) [some (Aa (4))]) else (
bif (decide (b<(0))) then (
As R ((100004,some ⟨[Aa a,Aa e,Aa f,Aa d,Aa b,Aa c],135⟩)::(100004,some ⟨[Aa (0),Aa (0),Aa (0),Aa (0),Aa (0),Aa (0)],135⟩)::m) [some (Aa (4))]) else (
bif (decide (b>(1000000))) then (
As R ((100004,some ⟨[Aa a,Aa e,Aa f,Aa d,Aa b,Aa c],135⟩)::(100004,some ⟨[Aa (0),Aa (0),Aa (0),Aa (0),Aa (0),Aa (0)],135⟩)::m) [some (Aa (4))]) else (
bif (decide (c<(0))) then (
As R ((100004,some ⟨[Aa a,Aa e,Aa f,Aa d,Aa b,Aa c],135⟩)::(100004,some ⟨[Aa (0),Aa (0),Aa (0),Aa (0),Aa (0),Aa (0)],135⟩)::m) [some (Aa (4))]) else (
bif (decide (c>(60000))) then (
As R ((100004,some ⟨[Aa a,Aa e,Aa f,Aa d,Aa b,Aa c],135⟩)::(100004,some ⟨[Aa (0),Aa (0),Aa (0),Aa (0),Aa (0),Aa (0)],135⟩)::m) [some (Aa (4))]) else (
N0 ⟨[(0,l),(2,(Aa p)),(14,n),(15,(Aa j)),(16,(Aa (IntKind.wrap .i64 (g+(1))))),(17,(Ai (decide (g<j)))),(18,(Aa g)),(19,o),(20,(AV.agg [Aa a,Aa e,Aa f,Aa d,Aa b,Aa c])),(4,(AV.ptr 100004 0)),(3,(Aa g)),(21,(AV.ptr 100004 0)),(22,(AV.ptr 100004 0)),(23,(Aa a)),(24,(Ai (decide (a<(0))))),(25,(Ai false)),(26,(AV.ptr 100004 0)),(27,(AV.ptr 100004 0)),(28,(Aa a)),(29,(Ai (decide (a>(200000))))),(30,(Ai (decide (a>(200000))))),(31,(Ai false)),(32,(Aa g)),(33,(Ai (decide (g>(0))))),(34,(Ai true)),(35,(AV.ptr 100004 0)),(36,(AV.ptr 100004 0)),(37,(Aa a)),(38,l),(39,(Aa g)),(40,(Aa (IntKind.wrap .i64 (g-(1))))),(41,q),(42,r),(43,s),(44,(Aa k)),(45,(Ai (decide (a≤k)))),(46,(Ai (decide (a≤k)))),(47,(Ai (decide (a≤k)))),(48,(AV.ptr 100004 0)),(49,(AV.ptr 100004 1)),(50,(AV.agg [Aa e,Aa f])),(51,(Aa h)),(5,(Aa h)),(52,(Aa h)),(53,(Ai (h !=(0)))),(55,(AV.ptr 100004 0)),(56,(AV.ptr 100004 3)),(57,(Aa d)),(58,(Ai (decide (d<(0))))),(59,(Ai false)),(60,(AV.ptr 100004 0)),(61,(AV.ptr 100004 3)),(62,(Aa d)),(63,(Ai (decide (d>(60000))))),(64,(Ai (decide (d>(60000))))),(65,(Ai false)),(66,(AV.ptr 100004 4)),(67,(Aa b)),(68,(Ai (decide (b<(0))))),(69,(Ai (decide (b<(0))))),(70,(Ai false)),(71,(AV.ptr 100004 4)),(72,(Aa b)),(73,(Ai (decide (b>(1000000))))),(74,(Ai (decide (b>(1000000))))),(75,(Ai false)),(76,(AV.ptr 100004 5)),(77,(Aa c)),(78,(Ai (decide (c<(0))))),(79,(Ai (decide (c<(0))))),(80,(Ai false)),(81,(AV.ptr 100004 5)),(82,(Aa c)),(83,(Ai (decide (c>(60000))))),(84,(Ai (decide (c>(60000))))),(85,(Aa (IntKind.wrap .i64 (g+(1)))))],((100004,some ⟨[Aa a,Aa e,Aa f,Aa d,Aa b,Aa c],135⟩)::(100004,some ⟨[Aa (0),Aa (0),Aa (0),Aa (0),Aa (0),Aa (0)],135⟩)::m),100136⟩))))))))) else (
A2 pg KK.gl ((100004,some ⟨[Aa a,Aa e,Aa f,Aa d,Aa b,Aa c],135⟩)::(100004,some ⟨[Aa (0),Aa (0),Aa (0),Aa (0),Aa (0),Aa (0)],135⟩)::m) 59 [AV.agg [Aa e,Aa f]] fun w=>
Ag w fun i=>
bif (i !=(0)) then (
As R ((100004,some ⟨[Aa a,Aa e,Aa f,Aa d,Aa b,Aa c],135⟩)::(100004,some ⟨[Aa (0),Aa (0),Aa (0),Aa (0),Aa (0),Aa (0)],135⟩)::m) [some (Aa i)]) else (
bif (decide (d<(0))) then (
As R ((100004,some ⟨[Aa a,Aa e,Aa f,Aa d,Aa b,Aa c],135⟩)::(100004,some ⟨[Aa (0),Aa (0),Aa (0),Aa (0),Aa (0),Aa (0)],135⟩)::m) [some (Aa (4))]) else (
bif (decide (d>(60000))) then (
As R ((100004,some ⟨[Aa a,Aa e,Aa f,Aa d,Aa b,Aa c],135⟩)::(100004,some ⟨[Aa (0),Aa (0),Aa (0),Aa (0),Aa (0),Aa (0)],135⟩)::m) [some (Aa (4))]) else (
bif (decide (b<(0))) then (
As R ((100004,some ⟨[Aa a,Aa e,Aa f,Aa d,Aa b,Aa c],135⟩)::(100004,some ⟨[Aa (0),Aa (0),Aa (0),Aa (0),Aa (0),Aa (0)],135⟩)::m) [some (Aa (4))]) else (
bif (decide (b>(1000000))) then (
As R ((100004,some ⟨[Aa a,Aa e,Aa f,Aa d,Aa b,Aa c],135⟩)::(100004,some ⟨[Aa (0),Aa (0),Aa (0),Aa (0),Aa (0),Aa (0)],135⟩)::m) [some (Aa (4))]) else (
bif (decide (c<(0))) then (
As R ((100004,some ⟨[Aa a,Aa e,Aa f,Aa d,Aa b,Aa c],135⟩)::(100004,some ⟨[Aa (0),Aa (0),Aa (0),Aa (0),Aa (0),Aa (0)],135⟩)::m) [some (Aa (4))]) else (
bif (decide (c>(60000))) then (
As R ((100004,some ⟨[Aa a,Aa e,Aa f,Aa d,Aa b,Aa c],135⟩)::(100004,some ⟨[Aa (0),Aa (0),Aa (0),Aa (0),Aa (0),Aa (0)],135⟩)::m) [some (Aa (4))]) else (
N0 ⟨[(0,l),(2,(Aa p)),(14,n),(15,(Aa j)),(16,(Aa (IntKind.wrap .i64 (g+(1))))),(17,(Ai (decide (g<j)))),(18,(Aa g)),(19,o),(20,(AV.agg [Aa a,Aa e,Aa f,Aa d,Aa b,Aa c])),(4,(AV.ptr 100004 0)),(3,(Aa g)),(21,(AV.ptr 100004 0)),(22,(AV.ptr 100004 0)),(23,(Aa a)),(24,(Ai (decide (a<(0))))),(25,(Ai false)),(26,(AV.ptr 100004 0)),(27,(AV.ptr 100004 0)),(28,(Aa a)),(29,(Ai (decide (a>(200000))))),(30,(Ai (decide (a>(200000))))),(31,(Ai false)),(32,(Aa g)),(33,(Ai (decide (g>(0))))),(34,(Ai false)),(35,(AV.Bn [])),(36,(AV.Bn [])),(37,(AV.Bn [])),(38,(AV.Bn [])),(39,(AV.Bn [])),(40,(AV.Bn [])),(41,(AV.Bn [])),(42,(AV.Bn [])),(43,(AV.Bn [])),(44,(AV.Bn [])),(45,(AV.Bn [])),(46,(Ai false)),(47,(Ai false)),(48,(AV.ptr 100004 0)),(49,(AV.ptr 100004 1)),(50,(AV.agg [Aa e,Aa f])),(51,(Aa i)),(5,(Aa i)),(52,(Aa i)),(53,(Ai (i !=(0)))),(55,(AV.ptr 100004 0)),(56,(AV.ptr 100004 3)),(57,(Aa d)),(58,(Ai (decide (d<(0))))),(59,(Ai false)),(60,(AV.ptr 100004 0)),(61,(AV.ptr 100004 3)),(62,(Aa d)),(63,(Ai (decide (d>(60000))))),(64,(Ai (decide (d>(60000))))),(65,(Ai false)),(66,(AV.ptr 100004 4)),(67,(Aa b)),(68,(Ai (decide (b<(0))))),(69,(Ai (decide (b<(0))))),(70,(Ai false)),(71,(AV.ptr 100004 4)),(72,(Aa b)),(73,(Ai (decide (b>(1000000))))),(74,(Ai (decide (b>(1000000))))),(75,(Ai false)),(76,(AV.ptr 100004 5)),(77,(Aa c)),(78,(Ai (decide (c<(0))))),(79,(Ai (decide (c<(0))))),(80,(Ai false)),(81,(AV.ptr 100004 5)),(82,(Aa c)),(83,(Ai (decide (c>(60000))))),(84,(Ai (decide (c>(60000))))),(85,(Aa (IntKind.wrap .i64 (g+(1)))))],((100004,some ⟨[Aa a,Aa e,Aa f,Aa d,Aa b,Aa c],135⟩)::(100004,some ⟨[Aa (0),Aa (0),Aa (0),Aa (0),Aa (0),Aa (0)],135⟩)::m),100136⟩))))))))))) else (
As R m [some (Aa (0))])
noncomputable def F42 (a:AV) (R:AV→Mem→Prop):Prop:=
A4 (Da a) fun d=>
Ag d fun b=>
bif (decide (b>(64))) then (
As R [] [some (Aa (2))]) else (
A4 (Da a) fun e=>
Ag e fun c=>
bif (c==(0)) then (
As R [] [some (Aa (3))]) else (
A4 (Da a) fun f=>
Ag f fun g=>
Ff pg KK 86 0 (.loop Ao7) ⟨[(0,a),(2,(Aa (0))),(7,a),(8,(Aa b)),(9,(Ai (decide (b>(64))))),(6,(Ai (decide (b>(64))))),(11,a),(12,(Aa c)),(13,(Ai (c==(0)))),(10,(Ai (c==(0)))),(14,a),(15,(Aa g)),(16,(Aa (0)))],[],12⟩ (Afm R)))
noncomputable def c65:Code:=((Tryz.f65).body).getD .skip
noncomputable def q65 (R:AV→Mem→Prop):A1→St→Prop:=Cm pg Tryz.f65 R
noncomputable def Ap5:Code:=Dy c65 0
noncomputable def Agm (R:AV→Mem→Prop):A1→St→Prop:=Dz pg KK 26 0 c65 0 (q65 R)
noncomputable def Ari (R:AV→Mem→Prop) (N0:St→Prop):A1→St→Prop:=Dw N0 (Agm R)
def Alu (a:Int) (b:AV) (c d:Int) (m:Mem):St:=⟨[(4,(Aa a)),(14,b),(15,(Aa c)),(16,(Aa d))],m,100000⟩
noncomputable def Agn (g:Int) (e:AV) (d b:Int) (m:Mem) (R:AV→Mem→Prop) (N0:St→Prop):Prop:=
bif (decide (b<d)) then (
A4 (De 1 e (Aa b)) fun f=>
A4 (Ek (Al m) f) fun c=>
A2 pg KK.gl m 42 [c] fun h=>
Ag h fun a=>
bif (a !=(0)) then (
As R m [some (Aa a)]) else (
N0 ⟨[(4,(Aa g)),(14,e),(15,(Aa d)),(16,(Aa (IntKind.wrap .i64 (b+(1))))),(17,(Ai (decide (b<d)))),(18,f),(19,c),(7,c),(20,c),(21,(Aa a)),(8,(Aa a)),(22,(Aa a)),(23,(Ai (a !=(0)))),(25,(Aa (IntKind.wrap .i64 (b+(1)))))],m,100074⟩)) else (
As R m [some (Aa (0))])
noncomputable def F65 (a b:Int) (d:AV) (R:AV→Mem→Prop):Prop:=
A2 pg KK.gl ((0,some ⟨[Aa a,Aa b],24⟩)::[]) 64 [AV.agg [Aa a,Aa b]] fun e=>
Ag e fun c=>
bif (c !=(0)) then (
As R ((0,some ⟨[Aa a,Aa b],24⟩)::[]) [some (Aa c)]) else (
A4 (Da d) fun f=>
Ag f fun g=>
Ff pg KK 26 0 (.loop Ap5) ⟨[(0,(AV.agg [Aa a,Aa b])),(1,d),(2,(AV.ptr 0 0)),(4,(Aa (0))),(9,(AV.agg [Aa a,Aa b])),(10,(Aa c)),(5,(Aa c)),(11,(Aa c)),(12,(Ai (c !=(0)))),(14,d),(15,(Aa g)),(16,(Aa (0)))],((0,some ⟨[Aa a,Aa b],24⟩)::[]),73⟩ (Agm R))
noncomputable def c138:Code:=((Tryz.f138).body).getD .skip
noncomputable def Awb (R:AV→Mem→Prop):A1→St→Prop:=Cm pg Tryz.f138 R
noncomputable def Aqd (a b:AV) (R:AV→Mem→Prop):Prop:=
A4 (De 6 a (Aa (0))) fun c=>
A4 (Eo 0 c) fun d=>
A4 (Eo 0 d) fun e=>
A4 (Ek (Al []) e) fun f=>
Ag f fun g=>
A4 (De 6 b (Aa (0))) fun h=>
A4 (Eo 0 h) fun i=>
A4 (Eo 0 i) fun j=>
A4 (Ek (Al []) j) fun k=>
Ag k fun l=>
A4 (Ce pg (.call ⟨.builtin .max,#[.tmp 0,.tmp 1],#[3,3]⟩) 3 [Aa g,Aa l] (Al []) 12) fun m=>
Ag m fun n=>
A4 (Da a) fun o=>
Ag o fun p=>
A4 (De 6 a (Aa (IntKind.wrap .i64 (p-(1))))) fun q=>
A4 (Eo 0 q) fun r=>
A4 (Eo 0 r) fun s=>
A4 (Ek (Al []) s) fun t=>
Ag t fun u=>
A4 (Da b) fun v=>
Ag v fun w=>
A4 (De 6 b (Aa (IntKind.wrap .i64 (w-(1))))) fun x=>
A4 (Eo 0 x) fun y=>
A4 (Eo 0 y) fun z=>
A4 (Ek (Al []) z) fun aa=>
Ag aa fun ab=>
A4 (Ce pg (.call ⟨.builtin .min,#[.tmp 0,.tmp 1],#[3,3]⟩) 3 [Aa u,Aa ab] (Al []) 29) fun ad=>
Ag ad fun ae=>
As R [] [some (Aa n),some (Aa ae)]
noncomputable def c131:Code:=((Tryz.f131).body).getD .skip
noncomputable def Ava (R:AV→Mem→Prop):A1→St→Prop:=Cm pg Tryz.f131 R
noncomputable def Apz (a:AV) (R:AV→Mem→Prop):Prop:=
A4 (De 6 a (Aa (0))) fun b=>
A4 (Eo 0 b) fun c=>
A4 (Eo 0 c) fun d=>
A4 (Ek (Al []) d) fun e=>
Ag e fun f=>
A4 (Da a) fun g=>
Ag g fun h=>
A4 (De 6 a (Aa (IntKind.wrap .i64 (h-(1))))) fun i=>
A4 (Eo 0 i) fun j=>
A4 (Eo 0 j) fun k=>
A4 (Ek (Al []) k) fun l=>
Ag l fun m=>
As R [] [some (Aa f),some (Aa m)]
noncomputable def At4:Code:=((Tryz.f187).body).getD .skip
noncomputable def Awe (R:AV→Mem→Prop):A1→St→Prop:=Cm pg Tryz.f187 R
noncomputable def Anz (a b c d e f g:Int) (R:AV→Mem→Prop):Prop:=
As R ((0,some ⟨[Aa a,Aa b,Aa c,Aa d,Aa e,Aa f],135⟩)::[]) [some (Aa (IntKind.wrap .i64 (a-g)))]
noncomputable def Al9:Code:=((Tryz.f186).body).getD .skip
noncomputable def Ass (R:AV→Mem→Prop):A1→St→Prop:=Cm pg Tryz.f186 R
noncomputable def Ajo:Code:=Dy Al9 0
noncomputable def sG (R:AV→Mem→Prop):A1→St→Prop:=Dz pg KK 49 0 Al9 0 (Ass R)
noncomputable def Aqo (R:AV→Mem→Prop) (N0:St→Prop):A1→St→Prop:=Dw N0 (sG R)
def Ah3 (a:AV) (b:Int) (c:AV) (d:Int) (e:Bool) (f g h:Int) (m:Mem):St:=⟨[(0,a),(1,(Aa b)),(2,c),(6,(Aa d)),(7,(Ai e)),(8,(Aa f)),(9,(Aa g)),(10,(Aa h))],m,100000⟩
noncomputable def wI (e:AV) (f:Int) (g:AV) (s:Int) (t:Bool) (h a c:Int) (m:Mem) (R:AV→Mem→Prop) (N0:St→Prop):Prop:=
bif (decide (a<c)) then (
A4 (Ce pg (.convert 3 262 (.tmp 0)) 262 [Aa (IntKind.wrap .i64 (a+c))] (Al m) 100006) fun v2=>
D3 v2 fun i=>
A4 (Ce pg (.binOp .shr 262 (.tmp 0) (.tmp 1) 262) 262 [AV.sc (.int .u64 i),AV.sc (.int .u64 (1))] (Al m) 100007) fun v4=>
D3 v4 fun j=>
A4 (Ce pg (.convert 262 3 (.tmp 0)) 3 [AV.sc (.int .u64 j)] (Al m) 100008) fun v6=>
Ag v6 fun b=>
A4 (De 6 e (Aa b)) fun k=>
A4 (Hj (Al m) 6 k) fun v9=>
Kx v9 fun O2 Kj c12 Wm aa ab=>
Ag O2 fun l=>
Ag Kj fun n=>
Ag c12 fun o=>
Ag Wm fun p=>
Ag aa fun q=>
Ag ab fun r=>
H7 (some g) (some [AV.agg [Aa l,Aa n,Aa o,Aa p,Aa q,Aa r],Aa f]) fun f22 x=>bif KK.pm f22 then A2 pg KK.gl m f22 x (fun u=>
Ag u fun d=>
bif (decide (d<(0))) then (
N0 ⟨[(0,e),(1,(Aa f)),(2,g),(6,(Aa s)),(7,(Ai t)),(8,(Aa h)),(9,(Aa (IntKind.wrap .i64 (b+(1))))),(10,(Aa c)),(15,(Aa a)),(16,(Aa c)),(17,(Ai (decide (a<c)))),(18,(Aa a)),(19,(Aa c)),(20,(Aa (IntKind.wrap .i64 (a+c)))),(21,(AV.sc (.int .u64 i))),(22,(AV.sc (.int .u64 j))),(23,(Aa b)),(11,(Aa b)),(24,g),(25,e),(26,(Aa b)),(27,k),(28,(AV.agg [Aa l,Aa n,Aa o,Aa p,Aa q,Aa r])),(29,(Aa f)),(30,(Aa d)),(31,(Ai (decide (d<(0))))),(32,(Aa b)),(33,(Aa (IntKind.wrap .i64 (b+(1)))))],m,100084⟩) else (
N0 ⟨[(0,e),(1,(Aa f)),(2,g),(6,(Aa s)),(7,(Ai t)),(8,(Aa h)),(9,(Aa a)),(10,(Aa b)),(15,(Aa a)),(16,(Aa c)),(17,(Ai (decide (a<c)))),(18,(Aa a)),(19,(Aa c)),(20,(Aa (IntKind.wrap .i64 (a+c)))),(21,(AV.sc (.int .u64 i))),(22,(AV.sc (.int .u64 j))),(23,(Aa b)),(11,(Aa b)),(24,g),(25,e),(26,(Aa b)),(27,k),(28,(AV.agg [Aa l,Aa n,Aa o,Aa p,Aa q,Aa r])),(29,(Aa f)),(30,(Aa d)),(31,(Ai (decide (d<(0))))),(34,(Aa b))],m,100083⟩)) else C1 pg KK.gl m 100016 f22 x fun u y=>
Ag u fun d=>
bif (decide (d<(0))) then (
N0 ⟨[(0,e),(1,(Aa f)),(2,g),(6,(Aa s)),(7,(Ai t)),(8,(Aa h)),(9,(Aa (IntKind.wrap .i64 (b+(1))))),(10,(Aa c)),(15,(Aa a)),(16,(Aa c)),(17,(Ai (decide (a<c)))),(18,(Aa a)),(19,(Aa c)),(20,(Aa (IntKind.wrap .i64 (a+c)))),(21,(AV.sc (.int .u64 i))),(22,(AV.sc (.int .u64 j))),(23,(Aa b)),(11,(Aa b)),(24,g),(25,e),(26,(Aa b)),(27,k),(28,(AV.agg [Aa l,Aa n,Aa o,Aa p,Aa q,Aa r])),(29,(Aa f)),(30,(Aa d)),(31,(Ai (decide (d<(0))))),(32,(Aa b)),(33,(Aa (IntKind.wrap .i64 (b+(1)))))],y,100084⟩) else (
N0 ⟨[(0,e),(1,(Aa f)),(2,g),(6,(Aa s)),(7,(Ai t)),(8,(Aa h)),(9,(Aa a)),(10,(Aa b)),(15,(Aa a)),(16,(Aa c)),(17,(Ai (decide (a<c)))),(18,(Aa a)),(19,(Aa c)),(20,(Aa (IntKind.wrap .i64 (a+c)))),(21,(AV.sc (.int .u64 i))),(22,(AV.sc (.int .u64 j))),(23,(Aa b)),(11,(Aa b)),(24,g),(25,e),(26,(Aa b)),(27,k),(28,(AV.agg [Aa l,Aa n,Aa o,Aa p,Aa q,Aa r])),(29,(Aa f)),(30,(Aa d)),(31,(Ai (decide (d<(0))))),(34,(Aa b))],y,100083⟩)) else (
bif (decide (a<h)) then (
A4 (De 6 e (Aa a)) fun ad=>
A4 (Hj (Al m) 6 ad) fun ae=>
Kx ae fun af ag c28 ah ai aj=>
Ag af fun ak=>
Ag ag fun al=>
Ag c28 fun am=>
Ag ah fun an=>
Ag ai fun ao=>
Ag aj fun ap=>
H7 (some g) (some [AV.agg [Aa ak,Aa al,Aa am,Aa an,Aa ao,Aa ap],Aa f]) fun f38 z=>bif KK.pm f38 then A2 pg KK.gl m f38 z (fun v=>
Ag v fun w=>
As R m [some (Aa a),some (Ai (w==(0)))]) else C1 pg KK.gl m 100014 f38 z fun v aq=>
Ag v fun w=>
As R aq [some (Aa a),some (Ai (w==(0)))]) else (
As R m [some (Aa a),some (Ai false)]))
noncomputable def Amu (b:AV) (c:Int) (d:AV) (R:AV→Mem→Prop):Prop:=
A4 (Da b) fun e=>
Ag e fun a=>
Ff pg KK 49 0 (.loop Ajo) ⟨[(0,b),(1,(Aa c)),(2,d),(6,(Aa (0))),(7,(Ai false)),(12,b),(13,(Aa a)),(8,(Aa a)),(14,(Aa a)),(9,(Aa (0))),(10,(Aa a))],[],8⟩ (sG R)
noncomputable def Atw:Code:=((Tryz.f189).body).getD .skip
noncomputable def Aut (R:AV→Mem→Prop):A1→St→Prop:=Cm pg Tryz.f189 R
noncomputable def Aoo (b a:Int) (R:AV→Mem→Prop):Prop:=
bif (a==(0)) then (
As R [] [some (Aa (0)),some (Aa (10))]) else (
bif (b==(-9223372036854775808)) then (
bif (a==(-1)) then (
As R [] [some (Aa (0)),some (Aa (2))]) else (
A4 (Ce pg (.binOp .quo 3 (.tmp 0) (.tmp 1) 3) 3 [Aa b,Aa a] (Al []) 14) fun e=>
Ag e fun c=>
A4 (Ce pg (.binOp .rem 3 (.tmp 0) (.tmp 1) 3) 3 [Aa b,Aa a] (Al []) 18) fun f=>
Ag f fun g=>
bif (g !=(0)) then (
A4 (Ce pg (.binOp .neq 4 (.tmp 0) (.tmp 1) 4) 4 [Ai (decide (b<(0))),Ai (decide (a<(0)))] (Al []) 25) fun h=>
Ha h fun i=>
bif i then (
As R [] [some (Aa (IntKind.wrap .i64 (c-(1)))),some (Aa (0))]) else (
As R [] [some (Aa c),some (Aa (0))])) else (
As R [] [some (Aa c),some (Aa (0))]))) else (
A4 (Ce pg (.binOp .quo 3 (.tmp 0) (.tmp 1) 3) 3 [Aa b,Aa a] (Al []) 12) fun j=>
Ag j fun d=>
A4 (Ce pg (.binOp .rem 3 (.tmp 0) (.tmp 1) 3) 3 [Aa b,Aa a] (Al []) 16) fun k=>
Ag k fun l=>
bif (l !=(0)) then (
A4 (Ce pg (.binOp .neq 4 (.tmp 0) (.tmp 1) 4) 4 [Ai (decide (b<(0))),Ai (decide (a<(0)))] (Al []) 23) fun m=>
Ha m fun n=>
bif n then (
As R [] [some (Aa (IntKind.wrap .i64 (d-(1)))),some (Aa (0))]) else (
As R [] [some (Aa d),some (Aa (0))])) else (
As R [] [some (Aa d),some (Aa (0))])))
noncomputable def Au6:Code:=((Tryz.f188).body).getD .skip
noncomputable def Av8 (R:AV→Mem→Prop):A1→St→Prop:=Cm pg Tryz.f188 R
noncomputable def Am1 (a b c d f e:Int) (R:AV→Mem→Prop):Prop:=
bif (decide (e≤(0))) then (
A4 (Mb [Aa (0),Aa (0)] [(0,1),(1,1)] []) fun g=>
B4 pg (Al ((2,some ⟨[Aa (0),Aa (0)],46⟩)::(1,some ⟨[Aa c,Aa d],46⟩)::(0,some ⟨[Aa a,Aa b],46⟩)::[])) 46 (AV.ptr 2 0) g fun v1 d1=>
As R (Ad ((2,some ⟨[Aa (0),Aa (0)],46⟩)::(1,some ⟨[Aa c,Aa d],46⟩)::(0,some ⟨[Aa a,Aa b],46⟩)::[]) d1) [(D7 pg (Al (Ad ((2,some ⟨[Aa (0),Aa (0)],46⟩)::(1,some ⟨[Aa c,Aa d],46⟩)::(0,some ⟨[Aa a,Aa b],46⟩)::[]) d1)) 46 (AV.ptr 2 0)).map (·.1),some (Aa (10))]) else (
bif (decide (e>(200000))) then (
A4 (Mb [Aa (0),Aa (0)] [(0,1),(1,1)] []) fun h=>
B4 pg (Al ((2,some ⟨[Aa (0),Aa (0)],46⟩)::(1,some ⟨[Aa c,Aa d],46⟩)::(0,some ⟨[Aa a,Aa b],46⟩)::[])) 46 (AV.ptr 2 0) h fun v3 d3=>
As R (Ad ((2,some ⟨[Aa (0),Aa (0)],46⟩)::(1,some ⟨[Aa c,Aa d],46⟩)::(0,some ⟨[Aa a,Aa b],46⟩)::[]) d3) [(D7 pg (Al (Ad ((2,some ⟨[Aa (0),Aa (0)],46⟩)::(1,some ⟨[Aa c,Aa d],46⟩)::(0,some ⟨[Aa a,Aa b],46⟩)::[]) d3)) 46 (AV.ptr 2 0)).map (·.1),some (Aa (4))]) else (
bif (decide (f<(0))) then (
A4 (Mb [Aa (0),Aa (0)] [(0,1),(1,1)] []) fun i=>
B4 pg (Al ((2,some ⟨[Aa (0),Aa (0)],46⟩)::(1,some ⟨[Aa c,Aa d],46⟩)::(0,some ⟨[Aa a,Aa b],46⟩)::[])) 46 (AV.ptr 2 0) i fun v5 d5=>
As R (Ad ((2,some ⟨[Aa (0),Aa (0)],46⟩)::(1,some ⟨[Aa c,Aa d],46⟩)::(0,some ⟨[Aa a,Aa b],46⟩)::[]) d5) [(D7 pg (Al (Ad ((2,some ⟨[Aa (0),Aa (0)],46⟩)::(1,some ⟨[Aa c,Aa d],46⟩)::(0,some ⟨[Aa a,Aa b],46⟩)::[]) d5)) 46 (AV.ptr 2 0)).map (·.1),some (Aa (4))]) else (
bif (decide (f>e)) then (
A4 (Mb [Aa (0),Aa (0)] [(0,1),(1,1)] []) fun j=>
B4 pg (Al ((2,some ⟨[Aa (0),Aa (0)],46⟩)::(1,some ⟨[Aa c,Aa d],46⟩)::(0,some ⟨[Aa a,Aa b],46⟩)::[])) 46 (AV.ptr 2 0) j fun v7 d7=>
As R (Ad ((2,some ⟨[Aa (0),Aa (0)],46⟩)::(1,some ⟨[Aa c,Aa d],46⟩)::(0,some ⟨[Aa a,Aa b],46⟩)::[]) d7) [(D7 pg (Al (Ad ((2,some ⟨[Aa (0),Aa (0)],46⟩)::(1,some ⟨[Aa c,Aa d],46⟩)::(0,some ⟨[Aa a,Aa b],46⟩)::[]) d7)) 46 (AV.ptr 2 0)).map (·.1),some (Aa (4))]) else (
A2 pg KK.gl ((2,some ⟨[Aa (0),Aa (0)],46⟩)::(1,some ⟨[Aa c,Aa d],46⟩)::(0,some ⟨[Aa a,Aa b],46⟩)::[]) 59 [AV.agg [Aa a,Aa b]] fun k=>
Ag k fun l=>
bif (l !=(0)) then (
A4 (Mb [Aa (0),Aa (0)] [(0,1),(1,1)] []) fun m=>
A2 pg KK.gl ((2,some ⟨[Aa (0),Aa (0)],46⟩)::(1,some ⟨[Aa c,Aa d],46⟩)::(0,some ⟨[Aa a,Aa b],46⟩)::[]) 59 [AV.agg [Aa a,Aa b]] fun n=>
Ag n fun o=>
B4 pg (Al ((2,some ⟨[Aa (0),Aa (0)],46⟩)::(1,some ⟨[Aa c,Aa d],46⟩)::(0,some ⟨[Aa a,Aa b],46⟩)::[])) 46 (AV.ptr 2 0) m fun ae d13=>
As R (Ad ((2,some ⟨[Aa (0),Aa (0)],46⟩)::(1,some ⟨[Aa c,Aa d],46⟩)::(0,some ⟨[Aa a,Aa b],46⟩)::[]) d13) [(D7 pg (Al (Ad ((2,some ⟨[Aa (0),Aa (0)],46⟩)::(1,some ⟨[Aa c,Aa d],46⟩)::(0,some ⟨[Aa a,Aa b],46⟩)::[]) d13)) 46 (AV.ptr 2 0)).map (·.1),some (Aa o)]) else (
A2 pg KK.gl ((2,some ⟨[Aa (0),Aa (0)],46⟩)::(1,some ⟨[Aa c,Aa d],46⟩)::(0,some ⟨[Aa a,Aa b],46⟩)::[]) 59 [AV.agg [Aa c,Aa d]] fun p=>
Ag p fun q=>
bif (q !=(0)) then (
A4 (Mb [Aa (0),Aa (0)] [(0,1),(1,1)] []) fun r=>
A2 pg KK.gl ((2,some ⟨[Aa (0),Aa (0)],46⟩)::(1,some ⟨[Aa c,Aa d],46⟩)::(0,some ⟨[Aa a,Aa b],46⟩)::[]) 59 [AV.agg [Aa c,Aa d]] fun s=>
Ag s fun t=>
B4 pg (Al ((2,some ⟨[Aa (0),Aa (0)],46⟩)::(1,some ⟨[Aa c,Aa d],46⟩)::(0,some ⟨[Aa a,Aa b],46⟩)::[])) 46 (AV.ptr 2 0) r fun af d19=>
As R (Ad ((2,some ⟨[Aa (0),Aa (0)],46⟩)::(1,some ⟨[Aa c,Aa d],46⟩)::(0,some ⟨[Aa a,Aa b],46⟩)::[]) d19) [(D7 pg (Al (Ad ((2,some ⟨[Aa (0),Aa (0)],46⟩)::(1,some ⟨[Aa c,Aa d],46⟩)::(0,some ⟨[Aa a,Aa b],46⟩)::[]) d19)) 46 (AV.ptr 2 0)).map (·.1),some (Aa t)]) else (
A2 pg KK.gl ((2,some ⟨[Aa (0),Aa (0)],46⟩)::(1,some ⟨[Aa c,Aa d],46⟩)::(0,some ⟨[Aa a,Aa b],46⟩)::[]) 189 [Aa (IntKind.wrap .i64 ((IntKind.wrap .i64 (c-a))*f)),Aa e] fun u=>
E7 u fun v w=>
Ag v fun x=>
Ag w fun ag=>
A2 pg KK.gl ((2,some ⟨[Aa (0),Aa (0)],46⟩)::(1,some ⟨[Aa c,Aa d],46⟩)::(0,some ⟨[Aa a,Aa b],46⟩)::[]) 189 [Aa (IntKind.wrap .i64 ((IntKind.wrap .i64 (d-b))*f)),Aa e] fun y=>
E7 y fun z aa=>
Ag z fun ab=>
Ag aa fun ah=>
A4 (Mb [Aa (0),Aa (0)] [(0,1),(1,1)] [(0,(Aa (IntKind.wrap .i64 (a+x)))),(1,(Aa (IntKind.wrap .i64 (b+ab))))]) fun ad=>
B4 pg (Al ((2,some ⟨[Aa (0),Aa (0)],46⟩)::(1,some ⟨[Aa c,Aa d],46⟩)::(0,some ⟨[Aa a,Aa b],46⟩)::[])) 46 (AV.ptr 2 0) ad fun ai d31=>
As R (Ad ((2,some ⟨[Aa (0),Aa (0)],46⟩)::(1,some ⟨[Aa c,Aa d],46⟩)::(0,some ⟨[Aa a,Aa b],46⟩)::[]) d31) [(D7 pg (Al (Ad ((2,some ⟨[Aa (0),Aa (0)],46⟩)::(1,some ⟨[Aa c,Aa d],46⟩)::(0,some ⟨[Aa a,Aa b],46⟩)::[]) d31)) 46 (AV.ptr 2 0)).map (·.1),some (Aa (0))]))))))
noncomputable def Au8:Code:=((Tryz.f190).body).getD .skip
noncomputable def Au1 (R:AV→Mem→Prop):A1→St→Prop:=Cm pg Tryz.f190 R
noncomputable def Ap6 (c d:Int) (R:AV→Mem→Prop):Prop:=
A2 pg KK.gl [] 189 [Aa c,Aa d] fun e=>
E7 e fun f g=>
Ag f fun b=>
Ag g fun a=>
bif (a==(0)) then (
A4 (Ce pg (.binOp .rem 3 (.tmp 0) (.tmp 1) 3) 3 [Aa c,Aa d] (Al []) 78) fun h=>
Ag h fun i=>
bif (i !=(0)) then (
As R [] [some (Aa (IntKind.wrap .i64 (b+(1)))),some (Aa a)]) else (
As R [] [some (Aa b),some (Aa a)])) else (
As R [] [some (Aa b),some (Aa a)])
noncomputable def Avf:Code:=((Tryz.f132).body).getD .skip
noncomputable def Avw (R:AV→Mem→Prop):A1→St→Prop:=Cm pg Tryz.f132 R
noncomputable def Ap8 (e:AV) (d:Int) (R:AV→Mem→Prop):Prop:=
C1 pg KK.gl ((0,some ⟨[Aa (0),Aa (0),Aa (0),Aa (0),Aa (0),Aa (0)],135⟩)::[]) 3 186 [e,Aa d,AV.fn 187 []] fun x a=>
E7 x fun y z=>
Ag y fun i=>
Ha z fun b4=>
bif b4 then (
A4 (De 6 e (Aa i)) fun v5=>
A4 (Hj (Al a) 6 v5) fun v6=>
Kx v6 fun c7 c8 c9 O2 Kj c12=>
Ag c7 fun aa=>
Ag c8 fun ab=>
Ag c9 fun ad=>
Ag O2 fun ae=>
Ag Kj fun af=>
Ag c12 fun ag=>
B4 pg (Al a) 135 (AV.ptr 0 0) (AV.agg [Aa aa,Aa ab,Aa ad,Aa ae,Aa af,Aa ag]) fun cq d19=>
As R (Ad a d19) [(D7 pg (Al (Ad a d19)) 135 (AV.ptr 0 0)).map (·.1)]) else (
H0 (De 6 e (Aa (IntKind.wrap .i64 (i-(1))))) fun j d20=>
H0 (Hj (Cy (Ad a d20) (A3 j++([]))) 6 j) fun ah d21=>
Kx ah fun ai aj ak al am an=>
Ag ai fun k=>
Ag aj fun l=>
Ag ak fun m=>
Ag al fun n=>
Ag am fun o=>
Ag an fun p=>
H0 (De 6 e (Aa i)) fun q d34=>
H0 (Hj (Cy (Ad (Ad (Ad a d20) d21) d34) (A3 q++([]))) 6 q) fun ao d35=>
Kx ao fun ap aq ar au c40 c41=>
Ag ap fun r=>
Ag aq fun s=>
Ag ar fun t=>
Ag au fun u=>
Ag c40 fun v=>
Ag c41 fun w=>
B4 pg (Cy ((83,some ⟨[Aa (0),Aa (0),Aa (0),Aa (0),Aa (0),Aa (0)],135⟩)::(82,some ⟨[Aa (0),Aa (0),Aa (0),Aa (0),Aa (0),Aa (0)],135⟩)::(Ad (Ad (Ad (Ad a d20) d21) d34) d35)) (A3 (AV.ptr 82 0)++(A3 (AV.agg [Aa k,Aa l,Aa m,Aa n,Aa o,Aa p])++([])))) 135 (AV.ptr 82 0) (AV.agg [Aa k,Aa l,Aa m,Aa n,Aa o,Aa p]) fun cs d48=>
B4 pg (Cy (Ad ((83,some ⟨[Aa (0),Aa (0),Aa (0),Aa (0),Aa (0),Aa (0)],135⟩)::(82,some ⟨[Aa (0),Aa (0),Aa (0),Aa (0),Aa (0),Aa (0)],135⟩)::(Ad (Ad (Ad (Ad a d20) d21) d34) d35)) d48) (A3 (AV.ptr 83 0)++(A3 (AV.agg [Aa r,Aa s,Aa t,Aa u,Aa v,Aa w])++([])))) 135 (AV.ptr 83 0) (AV.agg [Aa r,Aa s,Aa t,Aa u,Aa v,Aa w]) fun ct d49=>
Ic (E3 [0,0,2,7,15,0,0,96,224,0,0,1567,4095] [⟨[],[]⟩,⟨[],[]⟩,⟨[],[]⟩,⟨d20,[]⟩,⟨d21,A3 j++([])⟩,⟨[],[]⟩,⟨[],[]⟩,⟨d34,[]⟩,⟨d35,A3 q++([])⟩,⟨[(82,some ⟨[Aa (0),Aa (0),Aa (0),Aa (0),Aa (0),Aa (0)],135⟩)],[]⟩,⟨[(83,some ⟨[Aa (0),Aa (0),Aa (0),Aa (0),Aa (0),Aa (0)],135⟩)],[]⟩,⟨d48,A3 (AV.ptr 82 0)++(A3 (AV.agg [Aa k,Aa l,Aa m,Aa n,Aa o,Aa p])++([]))⟩,⟨d49,A3 (AV.ptr 83 0)++(A3 (AV.agg [Aa r,Aa s,Aa t,Aa u,Aa v,Aa w])++([]))⟩]) (A4 (Ek (Al (Ad (Ad ((83,some ⟨[Aa (0),Aa (0),Aa (0),Aa (0),Aa (0),Aa (0)],135⟩)::(82,some ⟨[Aa (0),Aa (0),Aa (0),Aa (0),Aa (0),Aa (0)],135⟩)::(Ad (Ad (Ad (Ad a d20) d21) d34) d35)) d48) d49)) (AV.ptr 82 0)) fun av=>
Ag av fun f=>
A4 (Ek (Al (Ad (Ad ((83,some ⟨[Aa (0),Aa (0),Aa (0),Aa (0),Aa (0),Aa (0)],135⟩)::(82,some ⟨[Aa (0),Aa (0),Aa (0),Aa (0),Aa (0),Aa (0)],135⟩)::(Ad (Ad (Ad (Ad a d20) d21) d34) d35)) d48) d49)) (AV.ptr 83 0)) fun aw=>
Ag aw fun g=>
A4 (Ek (Al (Ad (Ad ((83,some ⟨[Aa (0),Aa (0),Aa (0),Aa (0),Aa (0),Aa (0)],135⟩)::(82,some ⟨[Aa (0),Aa (0),Aa (0),Aa (0),Aa (0),Aa (0)],135⟩)::(Ad (Ad (Ad (Ad a d20) d21) d34) d35)) d48) d49)) (AV.ptr 82 0)) fun ax=>
Ag ax fun h=>
A4 (Hj (Al (Ad (Ad ((83,some ⟨[Aa (0),Aa (0),Aa (0),Aa (0),Aa (0),Aa (0)],135⟩)::(82,some ⟨[Aa (0),Aa (0),Aa (0),Aa (0),Aa (0),Aa (0)],135⟩)::(Ad (Ad (Ad (Ad a d20) d21) d34) d35)) d48) d49)) 2 (AV.ptr 82 1)) fun ay=>
I3 ay fun p9 c58=>
Ag p9 fun az=>
Ag c58 fun ba=>
A4 (Hj (Al (Ad (Ad ((83,some ⟨[Aa (0),Aa (0),Aa (0),Aa (0),Aa (0),Aa (0)],135⟩)::(82,some ⟨[Aa (0),Aa (0),Aa (0),Aa (0),Aa (0),Aa (0)],135⟩)::(Ad (Ad (Ad (Ad a d20) d21) d34) d35)) d48) d49)) 2 (AV.ptr 83 1)) fun bb=>
I3 bb fun c62 zK=>
Ag c62 fun bc=>
Ag zK fun bd=>
A2 pg KK.gl (Ad (Ad ((83,some ⟨[Aa (0),Aa (0),Aa (0),Aa (0),Aa (0),Aa (0)],135⟩)::(82,some ⟨[Aa (0),Aa (0),Aa (0),Aa (0),Aa (0),Aa (0)],135⟩)::(Ad (Ad (Ad (Ad a d20) d21) d34) d35)) d48) d49) 188 [AV.agg [Aa az,Aa ba],AV.agg [Aa bc,Aa bd],Aa (IntKind.wrap .i64 (d-f)),Aa (IntKind.wrap .i64 (g-h))] fun be=>
E7 be fun bf c68=>
I3 bf fun c69 c70=>
Ag c69 fun b=>
Ag c70 fun c=>
Ag c68 fun cu=>
A4 (Ek (Al ((175,some ⟨[Aa b,Aa c],46⟩)::(175,some ⟨[Aa (0),Aa (0)],46⟩)::(Ad (Ad ((83,some ⟨[Aa (0),Aa (0),Aa (0),Aa (0),Aa (0),Aa (0)],135⟩)::(82,some ⟨[Aa (0),Aa (0),Aa (0),Aa (0),Aa (0),Aa (0)],135⟩)::(Ad (Ad (Ad (Ad a d20) d21) d34) d35)) d48) d49))) (AV.ptr 83 3)) fun bg=>
Ag bg fun bh=>
A4 (Ek (Al ((175,some ⟨[Aa b,Aa c],46⟩)::(175,some ⟨[Aa (0),Aa (0)],46⟩)::(Ad (Ad ((83,some ⟨[Aa (0),Aa (0),Aa (0),Aa (0),Aa (0),Aa (0)],135⟩)::(82,some ⟨[Aa (0),Aa (0),Aa (0),Aa (0),Aa (0),Aa (0)],135⟩)::(Ad (Ad (Ad (Ad a d20) d21) d34) d35)) d48) d49))) (AV.ptr 82 3)) fun bi=>
Ag bi fun bj=>
A2 pg KK.gl ((175,some ⟨[Aa b,Aa c],46⟩)::(175,some ⟨[Aa (0),Aa (0)],46⟩)::(Ad (Ad ((83,some ⟨[Aa (0),Aa (0),Aa (0),Aa (0),Aa (0),Aa (0)],135⟩)::(82,some ⟨[Aa (0),Aa (0),Aa (0),Aa (0),Aa (0),Aa (0)],135⟩)::(Ad (Ad (Ad (Ad a d20) d21) d34) d35)) d48) d49)) 189 [Aa (IntKind.wrap .i64 ((IntKind.wrap .i64 (bh-bj))*(IntKind.wrap .i64 (d-f)))),Aa (IntKind.wrap .i64 (g-h))] fun bk=>
E7 bk fun bl bm=>
Ag bl fun bn=>
Ag bm fun cv=>
A4 (Ek (Al ((175,some ⟨[Aa b,Aa c],46⟩)::(175,some ⟨[Aa (0),Aa (0)],46⟩)::(Ad (Ad ((83,some ⟨[Aa (0),Aa (0),Aa (0),Aa (0),Aa (0),Aa (0)],135⟩)::(82,some ⟨[Aa (0),Aa (0),Aa (0),Aa (0),Aa (0),Aa (0)],135⟩)::(Ad (Ad (Ad (Ad a d20) d21) d34) d35)) d48) d49))) (AV.ptr 83 4)) fun bo=>
Ag bo fun bp=>
A4 (Ek (Al ((175,some ⟨[Aa b,Aa c],46⟩)::(175,some ⟨[Aa (0),Aa (0)],46⟩)::(Ad (Ad ((83,some ⟨[Aa (0),Aa (0),Aa (0),Aa (0),Aa (0),Aa (0)],135⟩)::(82,some ⟨[Aa (0),Aa (0),Aa (0),Aa (0),Aa (0),Aa (0)],135⟩)::(Ad (Ad (Ad (Ad a d20) d21) d34) d35)) d48) d49))) (AV.ptr 82 4)) fun bq=>
Ag bq fun br=>
A2 pg KK.gl ((175,some ⟨[Aa b,Aa c],46⟩)::(175,some ⟨[Aa (0),Aa (0)],46⟩)::(Ad (Ad ((83,some ⟨[Aa (0),Aa (0),Aa (0),Aa (0),Aa (0),Aa (0)],135⟩)::(82,some ⟨[Aa (0),Aa (0),Aa (0),Aa (0),Aa (0),Aa (0)],135⟩)::(Ad (Ad (Ad (Ad a d20) d21) d34) d35)) d48) d49)) 190 [Aa (IntKind.wrap .i64 ((IntKind.wrap .i64 (bp-br))*(IntKind.wrap .i64 (d-f)))),Aa (IntKind.wrap .i64 (g-h))] fun bs=>
E7 bs fun bt bu=>
Ag bt fun bv=>
Ag bu fun cw=>
A4 (Ek (Al ((175,some ⟨[Aa b,Aa c],46⟩)::(175,some ⟨[Aa (0),Aa (0)],46⟩)::(Ad (Ad ((83,some ⟨[Aa (0),Aa (0),Aa (0),Aa (0),Aa (0),Aa (0)],135⟩)::(82,some ⟨[Aa (0),Aa (0),Aa (0),Aa (0),Aa (0),Aa (0)],135⟩)::(Ad (Ad (Ad (Ad a d20) d21) d34) d35)) d48) d49))) (AV.ptr 83 5)) fun bw=>
Ag bw fun bz=>
A4 (Ek (Al ((175,some ⟨[Aa b,Aa c],46⟩)::(175,some ⟨[Aa (0),Aa (0)],46⟩)::(Ad (Ad ((83,some ⟨[Aa (0),Aa (0),Aa (0),Aa (0),Aa (0),Aa (0)],135⟩)::(82,some ⟨[Aa (0),Aa (0),Aa (0),Aa (0),Aa (0),Aa (0)],135⟩)::(Ad (Ad (Ad (Ad a d20) d21) d34) d35)) d48) d49))) (AV.ptr 82 5)) fun ca=>
Ag ca fun cc=>
A2 pg KK.gl ((175,some ⟨[Aa b,Aa c],46⟩)::(175,some ⟨[Aa (0),Aa (0)],46⟩)::(Ad (Ad ((83,some ⟨[Aa (0),Aa (0),Aa (0),Aa (0),Aa (0),Aa (0)],135⟩)::(82,some ⟨[Aa (0),Aa (0),Aa (0),Aa (0),Aa (0),Aa (0)],135⟩)::(Ad (Ad (Ad (Ad a d20) d21) d34) d35)) d48) d49)) 190 [Aa (IntKind.wrap .i64 ((IntKind.wrap .i64 (bz-cc))*(IntKind.wrap .i64 (d-f)))),Aa (IntKind.wrap .i64 (g-h))] fun cd=>
E7 cd fun ce cg=>
Ag ce fun ch=>
Ag cg fun cx=>
A4 (Ek (Al ((175,some ⟨[Aa b,Aa c],46⟩)::(175,some ⟨[Aa (0),Aa (0)],46⟩)::(Ad (Ad ((83,some ⟨[Aa (0),Aa (0),Aa (0),Aa (0),Aa (0),Aa (0)],135⟩)::(82,some ⟨[Aa (0),Aa (0),Aa (0),Aa (0),Aa (0),Aa (0)],135⟩)::(Ad (Ad (Ad (Ad a d20) d21) d34) d35)) d48) d49))) (AV.ptr 82 3)) fun ci=>
Ag ci fun cj=>
A4 (Mb [Aa (0),Aa (0),Aa (0),Aa (0)] [(0,1),(1,2),(3,1)] [(0,(Aa d)),(1,(AV.agg [Aa b,Aa c])),(2,(Aa (IntKind.wrap .i64 (cj+bn))))]) fun ck=>
A4 (Ek (Al ((175,some ⟨[Aa b,Aa c],46⟩)::(175,some ⟨[Aa (0),Aa (0)],46⟩)::(Ad (Ad ((83,some ⟨[Aa (0),Aa (0),Aa (0),Aa (0),Aa (0),Aa (0)],135⟩)::(82,some ⟨[Aa (0),Aa (0),Aa (0),Aa (0),Aa (0),Aa (0)],135⟩)::(Ad (Ad (Ad (Ad a d20) d21) d34) d35)) d48) d49))) (AV.ptr 82 4)) fun cl=>
Ag cl fun cm=>
A4 (Ek (Al ((175,some ⟨[Aa b,Aa c],46⟩)::(175,some ⟨[Aa (0),Aa (0)],46⟩)::(Ad (Ad ((83,some ⟨[Aa (0),Aa (0),Aa (0),Aa (0),Aa (0),Aa (0)],135⟩)::(82,some ⟨[Aa (0),Aa (0),Aa (0),Aa (0),Aa (0),Aa (0)],135⟩)::(Ad (Ad (Ad (Ad a d20) d21) d34) d35)) d48) d49))) (AV.ptr 82 5)) fun cn=>
Ag cn fun co=>
A4 (Mb [Aa (0),Aa (0),Aa (0),Aa (0),Aa (0),Aa (0)] [(0,4),(4,1),(5,1)] [(0,ck),(1,(Aa (IntKind.wrap .i64 (cm+bv)))),(2,(Aa (IntKind.wrap .i64 (co+ch))))]) fun cp=>
B4 pg (Al ((175,some ⟨[Aa b,Aa c],46⟩)::(175,some ⟨[Aa (0),Aa (0)],46⟩)::(Ad (Ad ((83,some ⟨[Aa (0),Aa (0),Aa (0),Aa (0),Aa (0),Aa (0)],135⟩)::(82,some ⟨[Aa (0),Aa (0),Aa (0),Aa (0),Aa (0),Aa (0)],135⟩)::(Ad (Ad (Ad (Ad a d20) d21) d34) d35)) d48) d49))) 135 (AV.ptr 0 0) cp fun cy d109=>
As R (Ad ((175,some ⟨[Aa b,Aa c],46⟩)::(175,some ⟨[Aa (0),Aa (0)],46⟩)::(Ad (Ad ((83,some ⟨[Aa (0),Aa (0),Aa (0),Aa (0),Aa (0),Aa (0)],135⟩)::(82,some ⟨[Aa (0),Aa (0),Aa (0),Aa (0),Aa (0),Aa (0)],135⟩)::(Ad (Ad (Ad (Ad a d20) d21) d34) d35)) d48) d49)) d109) [(D7 pg (Al (Ad ((175,some ⟨[Aa b,Aa c],46⟩)::(175,some ⟨[Aa (0),Aa (0)],46⟩)::(Ad (Ad ((83,some ⟨[Aa (0),Aa (0),Aa (0),Aa (0),Aa (0),Aa (0)],135⟩)::(82,some ⟨[Aa (0),Aa (0),Aa (0),Aa (0),Aa (0),Aa (0)],135⟩)::(Ad (Ad (Ad (Ad a d20) d21) d34) d35)) d48) d49)) d109)) 135 (AV.ptr 0 0)).map (·.1)]))
noncomputable def c60:Code:=((Tryz.f60).body).getD .skip
noncomputable def q60 (R:AV→Mem→Prop):A1→St→Prop:=Cm pg Tryz.f60 R
noncomputable def F60 (a:AV) (b:Int) (R:AV→Mem→Prop):Prop:=
A2 pg KK.gl ((0,some ⟨[Aa (0),Aa (0),Aa (0),Aa (0),Aa (0),Aa (0)],135⟩)::[]) 42 [a] fun j=>
Ag j fun c=>
bif (c !=(0)) then (
A4 (Mb [Aa (0),Aa (0),Aa (0),Aa (0),Aa (0),Aa (0)] [(0,4),(4,1),(5,1)] []) fun k=>
B4 pg (Al ((0,some ⟨[Aa (0),Aa (0),Aa (0),Aa (0),Aa (0),Aa (0)],135⟩)::[])) 135 (AV.ptr 0 0) k fun u d3=>
As R (Ad ((0,some ⟨[Aa (0),Aa (0),Aa (0),Aa (0),Aa (0),Aa (0)],135⟩)::[]) d3) [(D7 pg (Al (Ad ((0,some ⟨[Aa (0),Aa (0),Aa (0),Aa (0),Aa (0),Aa (0)],135⟩)::[]) d3)) 135 (AV.ptr 0 0)).map (·.1),some (Aa c)]) else (
A2 pg KK.gl ((0,some ⟨[Aa (0),Aa (0),Aa (0),Aa (0),Aa (0),Aa (0)],135⟩)::[]) 131 [a] fun l=>
E7 l fun c5 c6=>
Ag c5 fun m=>
Ag c6 fun n=>
bif (decide (b<m)) then (
A4 (Mb [Aa (0),Aa (0),Aa (0),Aa (0),Aa (0),Aa (0)] [(0,4),(4,1),(5,1)] []) fun o=>
B4 pg (Al ((0,some ⟨[Aa (0),Aa (0),Aa (0),Aa (0),Aa (0),Aa (0)],135⟩)::[])) 135 (AV.ptr 0 0) o fun v d10=>
As R (Ad ((0,some ⟨[Aa (0),Aa (0),Aa (0),Aa (0),Aa (0),Aa (0)],135⟩)::[]) d10) [(D7 pg (Al (Ad ((0,some ⟨[Aa (0),Aa (0),Aa (0),Aa (0),Aa (0),Aa (0)],135⟩)::[]) d10)) 135 (AV.ptr 0 0)).map (·.1),some (Aa (12))]) else (
bif (decide (b>n)) then (
A4 (Mb [Aa (0),Aa (0),Aa (0),Aa (0),Aa (0),Aa (0)] [(0,4),(4,1),(5,1)] []) fun p=>
B4 pg (Al ((0,some ⟨[Aa (0),Aa (0),Aa (0),Aa (0),Aa (0),Aa (0)],135⟩)::[])) 135 (AV.ptr 0 0) p fun w d12=>
As R (Ad ((0,some ⟨[Aa (0),Aa (0),Aa (0),Aa (0),Aa (0),Aa (0)],135⟩)::[]) d12) [(D7 pg (Al (Ad ((0,some ⟨[Aa (0),Aa (0),Aa (0),Aa (0),Aa (0),Aa (0)],135⟩)::[]) d12)) 135 (AV.ptr 0 0)).map (·.1),some (Aa (12))]) else (
A2 pg KK.gl ((0,some ⟨[Aa (0),Aa (0),Aa (0),Aa (0),Aa (0),Aa (0)],135⟩)::[]) 132 [a,Aa b] fun q=>
Kx q fun r s Is Mh kH t=>
Ag r fun d=>
Ag s fun e=>
Ag Is fun f=>
Ag Mh fun g=>
Ag kH fun h=>
Ag t fun i=>
As R ((0,some ⟨[Aa d,Aa e,Aa f,Aa g,Aa h,Aa i],135⟩)::(0,some ⟨[Aa (0),Aa (0),Aa (0),Aa (0),Aa (0),Aa (0)],135⟩)::[]) [some (AV.agg [Aa d,Aa e,Aa f,Aa g,Aa h,Aa i]),some (Aa (0))])))
noncomputable def Au7:Code:=((Tryz.f178).body).getD .skip
noncomputable def Av5 (R:AV→Mem→Prop):A1→St→Prop:=Cm pg Tryz.f178 R
noncomputable def Api (a b c d:Int) (R:AV→Mem→Prop):Prop:=
A4 (Mb [Aa (0),Aa (0)] [(0,1),(1,1)] [(0,(Aa (IntKind.wrap .i64 (a-c)))),(1,(Aa (IntKind.wrap .i64 (b-d))))]) fun e=>
B4 pg (Al ((2,some ⟨[Aa (0),Aa (0)],46⟩)::(1,some ⟨[Aa c,Aa d],46⟩)::(0,some ⟨[Aa a,Aa b],46⟩)::[])) 46 (AV.ptr 2 0) e fun f d1=>
As R (Ad ((2,some ⟨[Aa (0),Aa (0)],46⟩)::(1,some ⟨[Aa c,Aa d],46⟩)::(0,some ⟨[Aa a,Aa b],46⟩)::[]) d1) [(D7 pg (Al (Ad ((2,some ⟨[Aa (0),Aa (0)],46⟩)::(1,some ⟨[Aa c,Aa d],46⟩)::(0,some ⟨[Aa a,Aa b],46⟩)::[]) d1)) 46 (AV.ptr 2 0)).map (·.1)]
noncomputable def Auz:Code:=((Tryz.f301).body).getD .skip
noncomputable def Av6 (R:AV→Mem→Prop):A1→St→Prop:=Cm pg Tryz.f301 R
noncomputable def Am2 (a b c d:Int) (R:AV→Mem→Prop):Prop:=
As R ((1,some ⟨[Aa c,Aa d],46⟩)::(0,some ⟨[Aa a,Aa b],46⟩)::[]) [some (Aa (IntKind.wrap .i64 ((IntKind.wrap .i64 (a*c))+(IntKind.wrap .i64 (b*d)))))]
noncomputable def Aub:Code:=((Tryz.f246).body).getD .skip
noncomputable def Aua (R:AV→Mem→Prop):A1→St→Prop:=Cm pg Tryz.f246 R
noncomputable def Apy (a b c d:Int) (R:AV→Mem→Prop):Prop:=
A2 pg KK.gl ((1,some ⟨[Aa c,Aa d],46⟩)::(0,some ⟨[Aa a,Aa b],46⟩)::[]) 178 [AV.agg [Aa a,Aa b],AV.agg [Aa c,Aa d]] fun g=>
I3 g fun h i=>
Ag h fun e=>
Ag i fun f=>
A2 pg KK.gl ((69,some ⟨[Aa e,Aa f],46⟩)::(69,some ⟨[Aa (0),Aa (0)],46⟩)::(1,some ⟨[Aa c,Aa d],46⟩)::(0,some ⟨[Aa a,Aa b],46⟩)::[]) 301 [AV.agg [Aa e,Aa f],AV.agg [Aa e,Aa f]] fun j=>
Ag j fun k=>
As R ((69,some ⟨[Aa e,Aa f],46⟩)::(69,some ⟨[Aa (0),Aa (0)],46⟩)::(1,some ⟨[Aa c,Aa d],46⟩)::(0,some ⟨[Aa a,Aa b],46⟩)::[]) [some (Aa k)]
noncomputable def Apf:Code:=((Tryz.f247).body).getD .skip
noncomputable def Aq2 (R:AV→Mem→Prop):A1→St→Prop:=Cm pg Tryz.f247 R
noncomputable def Ai6:Code:=Dy Apf 0
noncomputable def qP (R:AV→Mem→Prop):A1→St→Prop:=Dz pg KK 27 0 Apf 0 (Aq2 R)
noncomputable def Aqs (R:AV→Mem→Prop) (N0:St→Prop):A1→St→Prop:=Dw N0 (qP R)
def Ajx (a b c d:Int) (m:Mem):St:=⟨[(0,(Aa a)),(2,(Aa b)),(3,(Aa c)),(4,(Aa d))],m,100000⟩
noncomputable def vQ (c d a b:Int) (m:Mem) (R:AV→Mem→Prop) (N0:St→Prop):Prop:=
bif (decide (a<b)) then (
bif (decide ((IntKind.wrap .i64 ((IntKind.wrap .i64 (a+(IntKind.wrap .i64 (Int.tdiv (IntKind.wrap .i64 ((IntKind.wrap .i64 (b-a))+(1))) (2)))))*(IntKind.wrap .i64 (a+(IntKind.wrap .i64 (Int.tdiv (IntKind.wrap .i64 ((IntKind.wrap .i64 (b-a))+(1))) (2)))))))≤c)) then (
N0 ⟨[(0,(Aa c)),(2,(Aa d)),(3,(Aa (IntKind.wrap .i64 (a+(IntKind.wrap .i64 (Int.tdiv (IntKind.wrap .i64 ((IntKind.wrap .i64 (b-a))+(1))) (2))))))),(4,(Aa b)),(8,(Aa a)),(9,(Aa b)),(10,(Ai (decide (a<b)))),(11,(Aa a)),(12,(Aa b)),(13,(Aa a)),(14,(Aa (IntKind.wrap .i64 (b-a)))),(15,(Aa (IntKind.wrap .i64 ((IntKind.wrap .i64 (b-a))+(1))))),(16,(Aa (IntKind.wrap .i64 (Int.tdiv (IntKind.wrap .i64 ((IntKind.wrap .i64 (b-a))+(1))) (2))))),(17,(Aa (IntKind.wrap .i64 (a+(IntKind.wrap .i64 (Int.tdiv (IntKind.wrap .i64 ((IntKind.wrap .i64 (b-a))+(1))) (2))))))),(5,(Aa (IntKind.wrap .i64 (a+(IntKind.wrap .i64 (Int.tdiv (IntKind.wrap .i64 ((IntKind.wrap .i64 (b-a))+(1))) (2))))))),(18,(Aa (IntKind.wrap .i64 (a+(IntKind.wrap .i64 (Int.tdiv (IntKind.wrap .i64 ((IntKind.wrap .i64 (b-a))+(1))) (2))))))),(19,(Aa (IntKind.wrap .i64 (a+(IntKind.wrap .i64 (Int.tdiv (IntKind.wrap .i64 ((IntKind.wrap .i64 (b-a))+(1))) (2))))))),(20,(Aa (IntKind.wrap .i64 ((IntKind.wrap .i64 (a+(IntKind.wrap .i64 (Int.tdiv (IntKind.wrap .i64 ((IntKind.wrap .i64 (b-a))+(1))) (2)))))*(IntKind.wrap .i64 (a+(IntKind.wrap .i64 (Int.tdiv (IntKind.wrap .i64 ((IntKind.wrap .i64 (b-a))+(1))) (2))))))))),(21,(Aa c)),(22,(Ai (decide ((IntKind.wrap .i64 ((IntKind.wrap .i64 (a+(IntKind.wrap .i64 (Int.tdiv (IntKind.wrap .i64 ((IntKind.wrap .i64 (b-a))+(1))) (2)))))*(IntKind.wrap .i64 (a+(IntKind.wrap .i64 (Int.tdiv (IntKind.wrap .i64 ((IntKind.wrap .i64 (b-a))+(1))) (2)))))))≤c)))),(23,(Aa (IntKind.wrap .i64 (a+(IntKind.wrap .i64 (Int.tdiv (IntKind.wrap .i64 ((IntKind.wrap .i64 (b-a))+(1))) (2)))))))],m,100018⟩) else (
N0 ⟨[(0,(Aa c)),(2,(Aa d)),(3,(Aa a)),(4,(Aa (IntKind.wrap .i64 ((IntKind.wrap .i64 (a+(IntKind.wrap .i64 (Int.tdiv (IntKind.wrap .i64 ((IntKind.wrap .i64 (b-a))+(1))) (2)))))-(1))))),(8,(Aa a)),(9,(Aa b)),(10,(Ai (decide (a<b)))),(11,(Aa a)),(12,(Aa b)),(13,(Aa a)),(14,(Aa (IntKind.wrap .i64 (b-a)))),(15,(Aa (IntKind.wrap .i64 ((IntKind.wrap .i64 (b-a))+(1))))),(16,(Aa (IntKind.wrap .i64 (Int.tdiv (IntKind.wrap .i64 ((IntKind.wrap .i64 (b-a))+(1))) (2))))),(17,(Aa (IntKind.wrap .i64 (a+(IntKind.wrap .i64 (Int.tdiv (IntKind.wrap .i64 ((IntKind.wrap .i64 (b-a))+(1))) (2))))))),(5,(Aa (IntKind.wrap .i64 (a+(IntKind.wrap .i64 (Int.tdiv (IntKind.wrap .i64 ((IntKind.wrap .i64 (b-a))+(1))) (2))))))),(18,(Aa (IntKind.wrap .i64 (a+(IntKind.wrap .i64 (Int.tdiv (IntKind.wrap .i64 ((IntKind.wrap .i64 (b-a))+(1))) (2))))))),(19,(Aa (IntKind.wrap .i64 (a+(IntKind.wrap .i64 (Int.tdiv (IntKind.wrap .i64 ((IntKind.wrap .i64 (b-a))+(1))) (2))))))),(20,(Aa (IntKind.wrap .i64 ((IntKind.wrap .i64 (a+(IntKind.wrap .i64 (Int.tdiv (IntKind.wrap .i64 ((IntKind.wrap .i64 (b-a))+(1))) (2)))))*(IntKind.wrap .i64 (a+(IntKind.wrap .i64 (Int.tdiv (IntKind.wrap .i64 ((IntKind.wrap .i64 (b-a))+(1))) (2))))))))),(21,(Aa c)),(22,(Ai (decide ((IntKind.wrap .i64 ((IntKind.wrap .i64 (a+(IntKind.wrap .i64 (Int.tdiv (IntKind.wrap .i64 ((IntKind.wrap .i64 (b-a))+(1))) (2)))))*(IntKind.wrap .i64 (a+(IntKind.wrap .i64 (Int.tdiv (IntKind.wrap .i64 ((IntKind.wrap .i64 (b-a))+(1))) (2)))))))≤c)))),(24,(Aa (IntKind.wrap .i64 (a+(IntKind.wrap .i64 (Int.tdiv (IntKind.wrap .i64 ((IntKind.wrap .i64 (b-a))+(1))) (2))))))),(25,(Aa (IntKind.wrap .i64 ((IntKind.wrap .i64 (a+(IntKind.wrap .i64 (Int.tdiv (IntKind.wrap .i64 ((IntKind.wrap .i64 (b-a))+(1))) (2)))))-(1)))))],m,100019⟩)) else (
As R m [some (Aa a)])
noncomputable def Anc (a:Int) (R:AV→Mem→Prop):Prop:=
bif (decide (a≤(0))) then (
As R [] [some (Aa (0))]) else (
Ff pg KK 27 0 (.loop Ai6) ⟨[(0,(Aa a)),(2,(Aa (0))),(6,(Aa a)),(7,(Ai (decide (a≤(0))))),(3,(Aa (0))),(4,(Aa (3037000499)))],[],5⟩ (qP R))
noncomputable def At8:Code:=((Tryz.f179).body).getD .skip
noncomputable def Avq (R:AV→Mem→Prop):A1→St→Prop:=Cm pg Tryz.f179 R
noncomputable def Anv (b c d e:Int) (R:AV→Mem→Prop):Prop:=
A2 pg KK.gl ((1,some ⟨[Aa d,Aa e],46⟩)::(0,some ⟨[Aa b,Aa c],46⟩)::[]) 246 [AV.agg [Aa b,Aa c],AV.agg [Aa d,Aa e]] fun g=>
Ag g fun f=>
A2 pg KK.gl ((1,some ⟨[Aa d,Aa e],46⟩)::(0,some ⟨[Aa b,Aa c],46⟩)::[]) 247 [Aa f] fun h=>
Ag h fun a=>
bif (decide ((IntKind.wrap .i64 (a*a))<f)) then (
As R ((1,some ⟨[Aa d,Aa e],46⟩)::(0,some ⟨[Aa b,Aa c],46⟩)::[]) [some (Aa a),some (Aa (IntKind.wrap .i64 (a+(1))))]) else (
As R ((1,some ⟨[Aa d,Aa e],46⟩)::(0,some ⟨[Aa b,Aa c],46⟩)::[]) [some (Aa a),some (Aa a)])
noncomputable def c139:Code:=((Tryz.f139).body).getD .skip
noncomputable def Aup (R:AV→Mem→Prop):A1→St→Prop:=Cm pg Tryz.f139 R
noncomputable def Ann (m c d a e f n g h b i j k l:Int) (R:AV→Mem→Prop):Prop:=
A2 pg KK.gl ((2,some ⟨[Aa k,Aa l],24⟩)::(1,some ⟨[Aa n,Aa g,Aa h,Aa b,Aa i,Aa j],135⟩)::(0,some ⟨[Aa m,Aa c,Aa d,Aa a,Aa e,Aa f],135⟩)::[]) 179 [AV.agg [Aa c,Aa d],AV.agg [Aa g,Aa h]] fun o=>
E7 o fun p q=>
Ag p fun r=>
Ag q fun u=>
bif (decide ((IntKind.wrap .i64 ((IntKind.wrap .i64 (r-e))-i))≥k)) then (
As R ((2,some ⟨[Aa k,Aa l],24⟩)::(1,some ⟨[Aa n,Aa g,Aa h,Aa b,Aa i,Aa j],135⟩)::(0,some ⟨[Aa m,Aa c,Aa d,Aa a,Aa e,Aa f],135⟩)::[]) [some (Ai true)]) else (
A4 (Ce pg (.call ⟨.builtin .max,#[.tmp 0,.tmp 1],#[3,3]⟩) 3 [Aa (IntKind.wrap .i64 (a-b)),Aa (IntKind.wrap .i64 (b-a))] (Al ((2,some ⟨[Aa k,Aa l],24⟩)::(1,some ⟨[Aa n,Aa g,Aa h,Aa b,Aa i,Aa j],135⟩)::(0,some ⟨[Aa m,Aa c,Aa d,Aa a,Aa e,Aa f],135⟩)::[])) 104) fun s=>
Ag s fun t=>
As R ((2,some ⟨[Aa k,Aa l],24⟩)::(1,some ⟨[Aa n,Aa g,Aa h,Aa b,Aa i,Aa j],135⟩)::(0,some ⟨[Aa m,Aa c,Aa d,Aa a,Aa e,Aa f],135⟩)::[]) [some (Ai (decide ((IntKind.wrap .i64 ((IntKind.wrap .i64 (t-f))-j))≥l)))])
noncomputable def c66:Code:=((Tryz.f66).body).getD .skip
noncomputable def q66 (R:AV→Mem→Prop):A1→St→Prop:=Cm pg Tryz.f66 R
noncomputable def Apj:Code:=Dy c66 0
noncomputable def Agr (R:AV→Mem→Prop):A1→St→Prop:=Dz pg KK 73 0 c66 0 (q66 R)
noncomputable def Asg (R:AV→Mem→Prop) (N0:St→Prop):A1→St→Prop:=Dw N0 (Agr R)
def Aps (a b c d:AV) (e f g h:Int) (m:Mem):St:=⟨[(0,a),(1,b),(5,(AV.ptr 0 0)),(6,c),(7,d),(9,(Aa e)),(10,(Aa f))],((0,some ⟨[Aa g,Aa h],24⟩)::m),100000⟩
noncomputable def Af4 (v w z p:AV) (u a s t:Int) (m:Mem) (R:AV→Mem→Prop) (N0:St→Prop):Prop:=
bif (decide (a≤u)) then (
A2 pg KK.gl ((0,some ⟨[Aa s,Aa t],24⟩)::m) 60 [v,Aa a] fun v5=>
E7 v5 fun c6 c7=>
Kx c6 fun c8 c9 O2 Kj c12 Wm=>
Ag c8 fun b=>
Ag c9 fun c=>
Ag O2 fun d=>
Ag Kj fun e=>
Ag c12 fun f=>
Ag Wm fun g=>
Ag c7 fun q=>
A2 pg KK.gl ((100072,some ⟨[Aa b,Aa c,Aa d,Aa e,Aa f,Aa g],135⟩)::(100072,some ⟨[Aa (0),Aa (0),Aa (0),Aa (0),Aa (0),Aa (0)],135⟩)::(0,some ⟨[Aa s,Aa t],24⟩)::m) 60 [w,Aa a] fun an=>
E7 an fun ao ap=>
Kx ao fun aq ar au av c28 aw=>
Ag aq fun h=>
Ag ar fun i=>
Ag au fun j=>
Ag av fun k=>
Ag c28 fun l=>
Ag aw fun n=>
Ag ap fun r=>
A2 pg KK.gl ((100144,some ⟨[Aa h,Aa i,Aa j,Aa k,Aa l,Aa n],135⟩)::(100144,some ⟨[Aa (0),Aa (0),Aa (0),Aa (0),Aa (0),Aa (0)],135⟩)::(100072,some ⟨[Aa b,Aa c,Aa d,Aa e,Aa f,Aa g],135⟩)::(100072,some ⟨[Aa (0),Aa (0),Aa (0),Aa (0),Aa (0),Aa (0)],135⟩)::(0,some ⟨[Aa s,Aa t],24⟩)::m) 139 [AV.agg [Aa b,Aa c,Aa d,Aa e,Aa f,Aa g],AV.agg [Aa h,Aa i,Aa j,Aa k,Aa l,Aa n],AV.agg [Aa s,Aa t]] fun ax=>
Ha ax fun y=>
bif y then (
N0 ⟨[(0,v),(1,w),(5,(AV.ptr 0 0)),(6,z),(7,p),(9,(Aa u)),(10,(Aa (IntKind.wrap .i64 (a+(1))))),(23,(Aa a)),(24,(Aa u)),(25,(Ai (decide (a≤u)))),(29,v),(30,(Aa a)),(31,(AV.Bn [AV.agg [Aa b,Aa c,Aa d,Aa e,Aa f,Aa g],Aa q])),(28,(AV.Bn [AV.agg [Aa b,Aa c,Aa d,Aa e,Aa f,Aa g],Aa q])),(32,(AV.agg [Aa b,Aa c,Aa d,Aa e,Aa f,Aa g])),(33,(Aa q)),(11,(AV.ptr 100072 0)),(12,(Aa q)),(35,w),(36,(Aa a)),(37,(AV.Bn [AV.agg [Aa h,Aa i,Aa j,Aa k,Aa l,Aa n],Aa r])),(34,(AV.Bn [AV.agg [Aa h,Aa i,Aa j,Aa k,Aa l,Aa n],Aa r])),(38,(AV.agg [Aa h,Aa i,Aa j,Aa k,Aa l,Aa n])),(39,(Aa r)),(13,(AV.ptr 100144 0)),(14,(Aa r)),(40,(AV.agg [Aa b,Aa c,Aa d,Aa e,Aa f,Aa g])),(41,(AV.agg [Aa h,Aa i,Aa j,Aa k,Aa l,Aa n])),(42,(AV.agg [Aa s,Aa t])),(43,(Ai y)),(26,(Aa a)),(27,(Aa (IntKind.wrap .i64 (a+(1)))))],((100144,some ⟨[Aa h,Aa i,Aa j,Aa k,Aa l,Aa n],135⟩)::(100144,some ⟨[Aa (0),Aa (0),Aa (0),Aa (0),Aa (0),Aa (0)],135⟩)::(100072,some ⟨[Aa b,Aa c,Aa d,Aa e,Aa f,Aa g],135⟩)::(100072,some ⟨[Aa (0),Aa (0),Aa (0),Aa (0),Aa (0),Aa (0)],135⟩)::(0,some ⟨[Aa s,Aa t],24⟩)::m),100217⟩) else (
A4 (Da p) fun ay=>
Ag ay fun o=>
bif (decide (o>(0))) then (
A4 (De 2 p (Aa (IntKind.wrap .i64 (o-(1))))) fun aa=>
A4 (Eo 1 aa) fun ab=>
A4 (Ek (Al ((100144,some ⟨[Aa h,Aa i,Aa j,Aa k,Aa l,Aa n],135⟩)::(100144,some ⟨[Aa (0),Aa (0),Aa (0),Aa (0),Aa (0),Aa (0)],135⟩)::(100072,some ⟨[Aa b,Aa c,Aa d,Aa e,Aa f,Aa g],135⟩)::(100072,some ⟨[Aa (0),Aa (0),Aa (0),Aa (0),Aa (0),Aa (0)],135⟩)::(0,some ⟨[Aa s,Aa t],24⟩)::m)) ab) fun az=>
Ag az fun x=>
bif (x==a) then (
A4 (De 2 p (Aa (IntKind.wrap .i64 (o-(1))))) fun ad=>
A4 (Eo 1 ad) fun ae=>
B4 pg (Al ((100144,some ⟨[Aa h,Aa i,Aa j,Aa k,Aa l,Aa n],135⟩)::(100144,some ⟨[Aa (0),Aa (0),Aa (0),Aa (0),Aa (0),Aa (0)],135⟩)::(100072,some ⟨[Aa b,Aa c,Aa d,Aa e,Aa f,Aa g],135⟩)::(100072,some ⟨[Aa (0),Aa (0),Aa (0),Aa (0),Aa (0),Aa (0)],135⟩)::(0,some ⟨[Aa s,Aa t],24⟩)::m)) 3 ae (Aa (IntKind.wrap .i64 (a+(1)))) fun bc d47=>
N0 ⟨[(0,v),(1,w),(5,(AV.ptr 0 0)),(6,z),(7,p),(9,(Aa u)),(10,(Aa (IntKind.wrap .i64 (a+(1))))),(23,(Aa a)),(24,(Aa u)),(25,(Ai (decide (a≤u)))),(29,v),(30,(Aa a)),(31,(AV.Bn [AV.agg [Aa b,Aa c,Aa d,Aa e,Aa f,Aa g],Aa q])),(28,(AV.Bn [AV.agg [Aa b,Aa c,Aa d,Aa e,Aa f,Aa g],Aa q])),(32,(AV.agg [Aa b,Aa c,Aa d,Aa e,Aa f,Aa g])),(33,(Aa q)),(11,(AV.ptr 100072 0)),(12,(Aa q)),(35,w),(36,(Aa a)),(37,(AV.Bn [AV.agg [Aa h,Aa i,Aa j,Aa k,Aa l,Aa n],Aa r])),(34,(AV.Bn [AV.agg [Aa h,Aa i,Aa j,Aa k,Aa l,Aa n],Aa r])),(38,(AV.agg [Aa h,Aa i,Aa j,Aa k,Aa l,Aa n])),(39,(Aa r)),(13,(AV.ptr 100144 0)),(14,(Aa r)),(40,(AV.agg [Aa b,Aa c,Aa d,Aa e,Aa f,Aa g])),(41,(AV.agg [Aa h,Aa i,Aa j,Aa k,Aa l,Aa n])),(42,(AV.agg [Aa s,Aa t])),(43,(Ai y)),(44,p),(45,(Aa o)),(15,(Aa o)),(46,(Aa o)),(47,(Ai (decide (o>(0))))),(48,(Ai true)),(49,p),(50,(Aa o)),(51,(Aa (IntKind.wrap .i64 (o-(1))))),(52,aa),(53,ab),(54,(Aa x)),(55,(Aa a)),(56,(Ai (x==a))),(57,(Ai (x==a))),(58,p),(59,(Aa o)),(60,(Aa (IntKind.wrap .i64 (o-(1))))),(61,(Aa a)),(62,(Aa (IntKind.wrap .i64 (a+(1))))),(63,ad),(64,ae),(26,(Aa a)),(27,(Aa (IntKind.wrap .i64 (a+(1)))))],Ad ((100144,some ⟨[Aa h,Aa i,Aa j,Aa k,Aa l,Aa n],135⟩)::(100144,some ⟨[Aa (0),Aa (0),Aa (0),Aa (0),Aa (0),Aa (0)],135⟩)::(100072,some ⟨[Aa b,Aa c,Aa d,Aa e,Aa f,Aa g],135⟩)::(100072,some ⟨[Aa (0),Aa (0),Aa (0),Aa (0),Aa (0),Aa (0)],135⟩)::(0,some ⟨[Aa s,Aa t],24⟩)::m) d47,100240⟩) else (
A4 (Mb [Aa (0),Aa (0)] [(0,1),(1,1)] [(0,(Aa a)),(1,(Aa (IntKind.wrap .i64 (a+(1)))))]) fun af=>
Hi (Th 100234 89 2 1 [Aa (0),Aa (0)] [(0,af)]) ((100144,some ⟨[Aa h,Aa i,Aa j,Aa k,Aa l,Aa n],135⟩)::(100144,some ⟨[Aa (0),Aa (0),Aa (0),Aa (0),Aa (0),Aa (0)],135⟩)::(100072,some ⟨[Aa b,Aa c,Aa d,Aa e,Aa f,Aa g],135⟩)::(100072,some ⟨[Aa (0),Aa (0),Aa (0),Aa (0),Aa (0),Aa (0)],135⟩)::(0,some ⟨[Aa s,Aa t],24⟩)::m) fun ag ah=>
Hi (app (Al ah) 89 2 16 [Aa (0),Aa (0)] 100235 p ag) ah fun ai ba=>
N0 ⟨[(0,v),(1,w),(5,(AV.ptr 0 0)),(6,z),(7,ai),(9,(Aa u)),(10,(Aa (IntKind.wrap .i64 (a+(1))))),(23,(Aa a)),(24,(Aa u)),(25,(Ai (decide (a≤u)))),(29,v),(30,(Aa a)),(31,(AV.Bn [AV.agg [Aa b,Aa c,Aa d,Aa e,Aa f,Aa g],Aa q])),(28,(AV.Bn [AV.agg [Aa b,Aa c,Aa d,Aa e,Aa f,Aa g],Aa q])),(32,(AV.agg [Aa b,Aa c,Aa d,Aa e,Aa f,Aa g])),(33,(Aa q)),(11,(AV.ptr 100072 0)),(12,(Aa q)),(35,w),(36,(Aa a)),(37,(AV.Bn [AV.agg [Aa h,Aa i,Aa j,Aa k,Aa l,Aa n],Aa r])),(34,(AV.Bn [AV.agg [Aa h,Aa i,Aa j,Aa k,Aa l,Aa n],Aa r])),(38,(AV.agg [Aa h,Aa i,Aa j,Aa k,Aa l,Aa n])),(39,(Aa r)),(13,(AV.ptr 100144 0)),(14,(Aa r)),(40,(AV.agg [Aa b,Aa c,Aa d,Aa e,Aa f,Aa g])),(41,(AV.agg [Aa h,Aa i,Aa j,Aa k,Aa l,Aa n])),(42,(AV.agg [Aa s,Aa t])),(43,(Ai y)),(44,p),(45,(Aa o)),(15,(Aa o)),(46,(Aa o)),(47,(Ai (decide (o>(0))))),(48,(Ai true)),(49,p),(50,(Aa o)),(51,(Aa (IntKind.wrap .i64 (o-(1))))),(52,aa),(53,ab),(54,(Aa x)),(55,(Aa a)),(56,(Ai (x==a))),(57,(Ai (x==a))),(65,p),(66,(Aa a)),(67,(Aa a)),(68,(Aa (IntKind.wrap .i64 (a+(1))))),(69,af),(70,ag),(71,ai),(26,(Aa a)),(27,(Aa (IntKind.wrap .i64 (a+(1)))))],ba,100240⟩)) else (
A4 (Mb [Aa (0),Aa (0)] [(0,1),(1,1)] [(0,(Aa a)),(1,(Aa (IntKind.wrap .i64 (a+(1)))))]) fun aj=>
Hi (Th 100226 89 2 1 [Aa (0),Aa (0)] [(0,aj)]) ((100144,some ⟨[Aa h,Aa i,Aa j,Aa k,Aa l,Aa n],135⟩)::(100144,some ⟨[Aa (0),Aa (0),Aa (0),Aa (0),Aa (0),Aa (0)],135⟩)::(100072,some ⟨[Aa b,Aa c,Aa d,Aa e,Aa f,Aa g],135⟩)::(100072,some ⟨[Aa (0),Aa (0),Aa (0),Aa (0),Aa (0),Aa (0)],135⟩)::(0,some ⟨[Aa s,Aa t],24⟩)::m) fun ak al=>
Hi (app (Al al) 89 2 16 [Aa (0),Aa (0)] 100227 p ak) al fun am bb=>
N0 ⟨[(0,v),(1,w),(5,(AV.ptr 0 0)),(6,z),(7,am),(9,(Aa u)),(10,(Aa (IntKind.wrap .i64 (a+(1))))),(23,(Aa a)),(24,(Aa u)),(25,(Ai (decide (a≤u)))),(29,v),(30,(Aa a)),(31,(AV.Bn [AV.agg [Aa b,Aa c,Aa d,Aa e,Aa f,Aa g],Aa q])),(28,(AV.Bn [AV.agg [Aa b,Aa c,Aa d,Aa e,Aa f,Aa g],Aa q])),(32,(AV.agg [Aa b,Aa c,Aa d,Aa e,Aa f,Aa g])),(33,(Aa q)),(11,(AV.ptr 100072 0)),(12,(Aa q)),(35,w),(36,(Aa a)),(37,(AV.Bn [AV.agg [Aa h,Aa i,Aa j,Aa k,Aa l,Aa n],Aa r])),(34,(AV.Bn [AV.agg [Aa h,Aa i,Aa j,Aa k,Aa l,Aa n],Aa r])),(38,(AV.agg [Aa h,Aa i,Aa j,Aa k,Aa l,Aa n])),(39,(Aa r)),(13,(AV.ptr 100144 0)),(14,(Aa r)),(40,(AV.agg [Aa b,Aa c,Aa d,Aa e,Aa f,Aa g])),(41,(AV.agg [Aa h,Aa i,Aa j,Aa k,Aa l,Aa n])),(42,(AV.agg [Aa s,Aa t])),(43,(Ai y)),(44,p),(45,(Aa o)),(15,(Aa o)),(46,(Aa o)),(47,(Ai (decide (o>(0))))),(48,(Ai false)),(49,(AV.Bn [])),(50,(AV.Bn [])),(51,(AV.Bn [])),(52,(AV.Bn [])),(53,(AV.Bn [])),(54,(AV.Bn [])),(55,(AV.Bn [])),(56,(AV.Bn [])),(57,(Ai false)),(65,p),(66,(Aa a)),(67,(Aa a)),(68,(Aa (IntKind.wrap .i64 (a+(1))))),(69,aj),(70,ak),(71,am),(26,(Aa a)),(27,(Aa (IntKind.wrap .i64 (a+(1)))))],bb,100232⟩))) else (
As R ((0,some ⟨[Aa s,Aa t],24⟩)::m) [some p])
noncomputable def F66 (c d:AV) (e f:Int) (R:AV→Mem→Prop):Prop:=
A2 pg KK.gl ((0,some ⟨[Aa e,Aa f],24⟩)::[]) 138 [c,d] fun g=>
E7 g fun h i=>
Ag h fun a=>
Ag i fun b=>
Ff pg KK 73 0 (.loop Apj) ⟨[(0,c),(1,d),(2,(AV.agg [Aa e,Aa f])),(5,(AV.ptr 0 0)),(6,AV.Bg),(7,AV.Bg),(17,c),(18,d),(19,(AV.Bn [Aa a,Aa b])),(16,(AV.Bn [Aa a,Aa b])),(20,(Aa a)),(21,(Aa b)),(8,(Aa a)),(9,(Aa b)),(22,(Aa a)),(10,(Aa a))],((0,some ⟨[Aa e,Aa f],24⟩)::[]),76⟩ (Agr R)
noncomputable def c85:Code:=((Tryz.f85).body).getD .skip
noncomputable def q85 (R:AV→Mem→Prop):A1→St→Prop:=Cm pg Tryz.f85 R
noncomputable def F85 (b c:AV) (d e:Int) (R:AV→Mem→Prop):Prop:=
Hi (Th 6 32 1 2 [AV.Bg] [(0,b),(1,c)]) ((0,some ⟨[Aa d,Aa e],24⟩)::[]) fun g a=>
A2 pg KK.gl a 65 [AV.agg [Aa d,Aa e],g] fun h=>
Ag h fun f=>
bif (f !=(0)) then (
As R a [some AV.Bg,some (Aa f)]) else (
A4 (Hj (Al a) 2 (AV.ptr 0 0)) fun i=>
I3 i fun j c5=>
Ag j fun k=>
Ag c5 fun l=>
A2 pg KK.gl a 66 [b,c,AV.agg [Aa k,Aa l]] fun m=>
As R a [some m,some (Aa (0))])
noncomputable def c28:Code:=((Tryz.f28).body).getD .skip
noncomputable def q28 (R:AV→Mem→Prop):A1→St→Prop:=Cm pg Tryz.f28 R
noncomputable def F28 (e f:AV) (a b:Int) (R:AV→Mem→Prop):Prop:=
A2 pg KK.gl ((0,some ⟨[Aa a,Aa b],24⟩)::[]) 85 [e,f,AV.agg [Aa a,Aa b]] fun g=>
E7 g fun c h=>
Ag h fun d=>
bif (d !=(0)) then (
As R ((0,some ⟨[Aa a,Aa b],24⟩)::[]) [some (Aa (0)),some (Aa d)]) else (
A4 (Da c) fun i=>
Ag i fun j=>
bif (j==(0)) then (
As R ((0,some ⟨[Aa a,Aa b],24⟩)::[]) [some (Aa (0)),some (Aa (8))]) else (
A4 (De 2 c (Aa (0))) fun k=>
A4 (Eo 0 k) fun l=>
A4 (Ek (Al ((0,some ⟨[Aa a,Aa b],24⟩)::[])) l) fun m=>
Ag m fun n=>
As R ((0,some ⟨[Aa a,Aa b],24⟩)::[]) [some (Aa n),some (Aa (0))]))
noncomputable def c96:Code:=((Tryz.f96).body).getD .skip
noncomputable def q96 (R:AV→Mem→Prop):A1→St→Prop:=Cm pg Tryz.f96 R
noncomputable def uQ:Code:=Dy c96 0
noncomputable def Afn (R:AV→Mem→Prop):A1→St→Prop:=Dz pg KK 55 0 c96 0 (q96 R)
noncomputable def Ah8 (R:AV→Mem→Prop) (N0:St→Prop):A1→St→Prop:=Dw N0 (Afn R)
def Afl (a b c d e f g h i j k l n o p q r s t u v w x y z aa ab ad ae af ag ah ai aj:Int) (m:Mem):St:=⟨[(1,(AV.ptr 0 0)),(2,(Aa a)),(10,(AV.agg [Aa b,Aa c,Aa d,Aa e,Aa f,Aa g,Aa h,Aa i,Aa j,Aa k,Aa l,Aa n,Aa o,Aa p,Aa q,Aa r])),(11,(Aa s))],((0,some ⟨[Aa t,Aa u,Aa v,Aa w,Aa x,Aa y,Aa z,Aa aa,Aa ab,Aa ad,Aa ae,Aa af,Aa ag,Aa ah,Aa ai,Aa aj],101⟩)::m),100000⟩
noncomputable def Abx:Code:=Dy uQ 0
noncomputable def lV (R:AV→Mem→Prop) (N0:St→Prop):A1→St→Prop:=Dz pg KK 55 0 uQ 0 (Ah8 R N0)
noncomputable def Aly (R:AV→Mem→Prop) (N0 N1:St→Prop):A1→St→Prop:=Dw N1 (lV R N0)
def Ac5 (a b c d e f g h i j k l n o p q r s t u v w x y z aa ab ad ae af ag ah ai aj ak al am an ao:Int) (m:Mem):St:=⟨[(1,(AV.ptr 0 0)),(2,(Aa a)),(10,(AV.agg [Aa b,Aa c,Aa d,Aa e,Aa f,Aa g,Aa h,Aa i,Aa j,Aa k,Aa l,Aa n,Aa o,Aa p,Aa q,Aa r])),(11,(Aa s)),(14,(AV.agg [Aa t,Aa u,Aa v,Aa w])),(15,(Aa x))],((0,some ⟨[Aa y,Aa z,Aa aa,Aa ab,Aa ad,Aa ae,Aa af,Aa ag,Aa ah,Aa ai,Aa aj,Aa ak,Aa al,Aa am,Aa an,Aa ao],101⟩)::m),200000⟩
noncomputable def rB:Code:=Dy c96 1
noncomputable def Agv (R:AV→Mem→Prop):A1→St→Prop:=Dz pg KK 55 0 c96 1 (q96 R)
noncomputable def Ajt (R:AV→Mem→Prop) (N0:St→Prop):A1→St→Prop:=Dw N0 (Agv R)
def Aa0 (a b c d e f g h i j k l n o p q r s:Int) (m:Mem):St:=⟨[(1,(AV.ptr 0 0)),(2,(Aa a)),(26,(Aa b))],((0,some ⟨[Aa c,Aa d,Aa e,Aa f,Aa g,Aa h,Aa i,Aa j,Aa k,Aa l,Aa n,Aa o,Aa p,Aa q,Aa r,Aa s],101⟩)::m),200000⟩
noncomputable def Zc:Code:=Dy rB 0
noncomputable def j7 (R:AV→Mem→Prop) (N0:St→Prop):A1→St→Prop:=Dz pg KK 55 0 rB 0 (Ajt R N0)
noncomputable def vL (R:AV→Mem→Prop) (N0 N1:St→Prop):A1→St→Prop:=Dw N1 (j7 R N0)
def mE (a b c d e f g h i j k l n o p q r s t u:Int) (m:Mem):St:=⟨[(1,(AV.ptr 0 0)),(2,(Aa a)),(7,(Aa b)),(26,(Aa c)),(29,(Aa d))],((0,some ⟨[Aa e,Aa f,Aa g,Aa h,Aa i,Aa j,Aa k,Aa l,Aa n,Aa o,Aa p,Aa q,Aa r,Aa s,Aa t,Aa u],101⟩)::m),300000⟩
noncomputable def oK:Code:=Dy Zc 0
noncomputable def X3 (R:AV→Mem→Prop) (N0 N1:St→Prop):A1→St→Prop:=Dz pg KK 55 0 Zc 0 (vL R N0 N1)
noncomputable def Ah4 (R:AV→Mem→Prop) (N0 N1 N2:St→Prop):A1→St→Prop:=Dw N2 (X3 R N0 N1)
def oZ (a b c d e f g h i j k l n o p q r s t u v w:Int) (m:Mem):St:=⟨[(1,(AV.ptr 0 0)),(2,(Aa a)),(7,(Aa b)),(8,(Aa c)),(26,(Aa d)),(29,(Aa e)),(32,(Aa f))],((0,some ⟨[Aa g,Aa h,Aa i,Aa j,Aa k,Aa l,Aa n,Aa o,Aa p,Aa q,Aa r,Aa s,Aa t,Aa u,Aa v,Aa w],101⟩)::m),400000⟩
noncomputable def Agd (t2 b c d e f g h i j k l n o p q r a s t u v w x y z aa ab ad ae af ag ah ai:Int) (m:Mem) (R:AV→Mem→Prop) (N0:St→Prop):Prop:=
bif (decide (a<(4))) then (
A4 (Ce pg (.index 101 (.tmp 0) (.tmp 1)) 99 [AV.agg [Aa b,Aa c,Aa d,Aa e,Aa f,Aa g,Aa h,Aa i,Aa j,Aa k,Aa l,Aa n,Aa o,Aa p,Aa q,Aa r],Aa a] (Al ((0,some ⟨[Aa s,Aa t,Aa u,Aa v,Aa w,Aa x,Aa y,Aa z,Aa aa,Aa ab,Aa ad,Aa ae,Aa af,Aa ag,Aa ah,Aa ai],101⟩)::m)) 100001) fun v0=>
Hz v0 fun c1 c2 c3 c4=>
Ag c1 fun z5=>
Ag c2 fun z6=>
Ag c3 fun z7=>
Ag c4 fun z8=>
Ff pg KK 55 0 (.loop Abx) ⟨[(1,(AV.ptr 0 0)),(2,(Aa t2)),(10,(AV.agg [Aa b,Aa c,Aa d,Aa e,Aa f,Aa g,Aa h,Aa i,Aa j,Aa k,Aa l,Aa n,Aa o,Aa p,Aa q,Aa r])),(11,(Aa a)),(12,(Ai (decide (a<(4))))),(13,(AV.agg [Aa z5,Aa z6,Aa z7,Aa z8])),(4,(AV.ptr 100002 0)),(14,(AV.agg [Aa z5,Aa z6,Aa z7,Aa z8])),(15,(Aa (0)))],((100002,some ⟨[Aa z5,Aa z6,Aa z7,Aa z8],99⟩)::(100002,some ⟨[Aa (0),Aa (0),Aa (0),Aa (0)],99⟩)::(0,some ⟨[Aa s,Aa t,Aa u,Aa v,Aa w,Aa x,Aa y,Aa z,Aa aa,Aa ab,Aa ad,Aa ae,Aa af,Aa ag,Aa ah,Aa ai],101⟩)::m),100006⟩ (lV R N0)) else (
Ff pg KK 55 0 (.loop rB) ⟨[(1,(AV.ptr 0 0)),(2,(Aa t2)),(10,(AV.agg [Aa b,Aa c,Aa d,Aa e,Aa f,Aa g,Aa h,Aa i,Aa j,Aa k,Aa l,Aa n,Aa o,Aa p,Aa q,Aa r])),(11,(Aa a)),(12,(Ai (decide (a<(4))))),(26,(Aa (0)))],((0,some ⟨[Aa s,Aa t,Aa u,Aa v,Aa w,Aa x,Aa y,Aa z,Aa aa,Aa ab,Aa ad,Aa ae,Aa af,Aa ag,Aa ah,Aa ai],101⟩)::m),100002⟩ (Agv R))
noncomputable def jW (y z aa ab ad ae af ag ah ai aj ak al am an ao ap t u v w x b c d e f g h i j k l n o p q r s:Int) (m:Mem) (R:AV→Mem→Prop) (N0 N1:St→Prop):Prop:=
bif (decide (b<(4))) then (
A4 (Ce pg (.index 99 (.tmp 0) (.tmp 1)) 3 [AV.agg [Aa u,Aa v,Aa w,Aa x],Aa b] (Al ((0,some ⟨[Aa c,Aa d,Aa e,Aa f,Aa g,Aa h,Aa i,Aa j,Aa k,Aa l,Aa n,Aa o,Aa p,Aa q,Aa r,Aa s],101⟩)::m)) 200001) fun v9=>
Ag v9 fun a=>
bif (decide (a<(30))) then (
As R ((0,some ⟨[Aa c,Aa d,Aa e,Aa f,Aa g,Aa h,Aa i,Aa j,Aa k,Aa l,Aa n,Aa o,Aa p,Aa q,Aa r,Aa s],101⟩)::m) [some (Aa (4))]) else (
bif (decide (a>(600))) then (
As R ((0,some ⟨[Aa c,Aa d,Aa e,Aa f,Aa g,Aa h,Aa i,Aa j,Aa k,Aa l,Aa n,Aa o,Aa p,Aa q,Aa r,Aa s],101⟩)::m) [some (Aa (4))]) else (
N1 ⟨[(1,(AV.ptr 0 0)),(2,(Aa y)),(10,(AV.agg [Aa z,Aa aa,Aa ab,Aa ad,Aa ae,Aa af,Aa ag,Aa ah,Aa ai,Aa aj,Aa ak,Aa al,Aa am,Aa an,Aa ao,Aa ap])),(11,(Aa t)),(14,(AV.agg [Aa u,Aa v,Aa w,Aa x])),(15,(Aa (IntKind.wrap .i64 (b+(1))))),(16,(Ai (decide (b<(4))))),(17,(Aa a)),(6,(Aa a)),(18,(Aa a)),(19,(Ai (decide (a<(30))))),(20,(Ai false)),(21,(Aa a)),(22,(Ai (decide (a>(600))))),(23,(Ai (decide (a>(600))))),(24,(Aa (IntKind.wrap .i64 (b+(1)))))],((0,some ⟨[Aa c,Aa d,Aa e,Aa f,Aa g,Aa h,Aa i,Aa j,Aa k,Aa l,Aa n,Aa o,Aa p,Aa q,Aa r,Aa s],101⟩)::m),200011⟩))) else (
N0 ⟨[(1,(AV.ptr 0 0)),(2,(Aa y)),(10,(AV.agg [Aa z,Aa aa,Aa ab,Aa ad,Aa ae,Aa af,Aa ag,Aa ah,Aa ai,Aa aj,Aa ak,Aa al,Aa am,Aa an,Aa ao,Aa ap])),(11,(Aa (IntKind.wrap .i64 (t+(1))))),(14,(AV.agg [Aa u,Aa v,Aa w,Aa x])),(15,(Aa b)),(16,(Ai (decide (b<(4))))),(25,(Aa (IntKind.wrap .i64 (t+(1)))))],((0,some ⟨[Aa c,Aa d,Aa e,Aa f,Aa g,Aa h,Aa i,Aa j,Aa k,Aa l,Aa n,Aa o,Aa p,Aa q,Aa r,Aa s],101⟩)::m),200003⟩)
noncomputable def Agk (s a b c d e f g h i j k l n o p q r:Int) (m:Mem) (R:AV→Mem→Prop) (N0:St→Prop):Prop:=
bif (decide (a<(4))) then (
Ff pg KK 55 0 (.loop Zc) ⟨[(1,(AV.ptr 0 0)),(2,(Aa s)),(26,(Aa a)),(27,(Ai (decide (a<(4))))),(28,(Aa a)),(7,(Aa a)),(29,(Aa (0)))],((0,some ⟨[Aa b,Aa c,Aa d,Aa e,Aa f,Aa g,Aa h,Aa i,Aa j,Aa k,Aa l,Aa n,Aa o,Aa p,Aa q,Aa r],101⟩)::m),200004⟩ (j7 R N0)) else (
As R ((0,some ⟨[Aa b,Aa c,Aa d,Aa e,Aa f,Aa g,Aa h,Aa i,Aa j,Aa k,Aa l,Aa n,Aa o,Aa p,Aa q,Aa r],101⟩)::m) [some (Aa (0))])
noncomputable def kQ (c d b a e f g h i j k l n o p q r s t u:Int) (m:Mem) (R:AV→Mem→Prop) (N0 N1:St→Prop):Prop:=
bif (decide (a<(4))) then (
Ff pg KK 55 0 (.loop oK) ⟨[(1,(AV.ptr 0 0)),(2,(Aa c)),(7,(Aa d)),(26,(Aa b)),(29,(Aa a)),(30,(Ai (decide (a<(4))))),(31,(Aa a)),(8,(Aa a)),(32,(Aa (0)))],((0,some ⟨[Aa e,Aa f,Aa g,Aa h,Aa i,Aa j,Aa k,Aa l,Aa n,Aa o,Aa p,Aa q,Aa r,Aa s,Aa t,Aa u],101⟩)::m),300004⟩ (X3 R N0 N1)) else (
N0 ⟨[(1,(AV.ptr 0 0)),(2,(Aa c)),(7,(Aa d)),(26,(Aa (IntKind.wrap .i64 (b+(1))))),(29,(Aa a)),(30,(Ai (decide (a<(4))))),(54,(Aa (IntKind.wrap .i64 (b+(1)))))],((0,some ⟨[Aa e,Aa f,Aa g,Aa h,Aa i,Aa j,Aa k,Aa l,Aa n,Aa o,Aa p,Aa q,Aa r,Aa s,Aa t,Aa u],101⟩)::m),300003⟩)
noncomputable def Yi (y b c z w a d e f g h i j k l n o p q r s t:Int) (m:Mem) (R:AV→Mem→Prop) (N0 N1 N2:St→Prop):Prop:=
bif (decide (a<(4))) then (
A4 (Mg 4 4 (AV.ptr 0 0) (Aa b)) fun aa=>
A4 (Mg 4 1 aa (Aa a)) fun ab=>
A4 (Ek (Al ((0,some ⟨[Aa d,Aa e,Aa f,Aa g,Aa h,Aa i,Aa j,Aa k,Aa l,Aa n,Aa o,Aa p,Aa q,Aa r,Aa s,Aa t],101⟩)::m)) ab) fun ah=>
Ag ah fun x=>
A4 (Mg 4 4 (AV.ptr 0 0) (Aa b)) fun ad=>
A4 (Mg 4 1 ad (Aa c)) fun ae=>
A4 (Ek (Al ((0,some ⟨[Aa d,Aa e,Aa f,Aa g,Aa h,Aa i,Aa j,Aa k,Aa l,Aa n,Aa o,Aa p,Aa q,Aa r,Aa s,Aa t],101⟩)::m)) ae) fun ai=>
Ag ai fun u=>
A4 (Mg 4 4 (AV.ptr 0 0) (Aa c)) fun af=>
A4 (Mg 4 1 af (Aa a)) fun ag=>
A4 (Ek (Al ((0,some ⟨[Aa d,Aa e,Aa f,Aa g,Aa h,Aa i,Aa j,Aa k,Aa l,Aa n,Aa o,Aa p,Aa q,Aa r,Aa s,Aa t],101⟩)::m)) ag) fun aj=>
Ag aj fun v=>
bif (decide (x>(IntKind.wrap .i64 (u+v)))) then (
As R ((0,some ⟨[Aa d,Aa e,Aa f,Aa g,Aa h,Aa i,Aa j,Aa k,Aa l,Aa n,Aa o,Aa p,Aa q,Aa r,Aa s,Aa t],101⟩)::m) [some (Aa (3))]) else (
N2 ⟨[(1,(AV.ptr 0 0)),(2,(Aa y)),(7,(Aa b)),(8,(Aa c)),(26,(Aa z)),(29,(Aa w)),(32,(Aa (IntKind.wrap .i64 (a+(1))))),(33,(Ai (decide (a<(4))))),(34,(Aa a)),(9,(Aa a)),(35,(Aa b)),(36,(Aa a)),(37,aa),(38,ab),(39,(Aa x)),(40,(Aa b)),(41,(Aa c)),(42,ad),(43,ae),(44,(Aa u)),(45,(Aa c)),(46,(Aa a)),(47,af),(48,ag),(49,(Aa v)),(50,(Aa (IntKind.wrap .i64 (u+v)))),(51,(Ai (decide (x>(IntKind.wrap .i64 (u+v)))))),(52,(Aa (IntKind.wrap .i64 (a+(1)))))],((0,some ⟨[Aa d,Aa e,Aa f,Aa g,Aa h,Aa i,Aa j,Aa k,Aa l,Aa n,Aa o,Aa p,Aa q,Aa r,Aa s,Aa t],101⟩)::m),400022⟩)) else (
N1 ⟨[(1,(AV.ptr 0 0)),(2,(Aa y)),(7,(Aa b)),(8,(Aa c)),(26,(Aa z)),(29,(Aa (IntKind.wrap .i64 (w+(1))))),(32,(Aa a)),(33,(Ai (decide (a<(4))))),(53,(Aa (IntKind.wrap .i64 (w+(1)))))],((0,some ⟨[Aa d,Aa e,Aa f,Aa g,Aa h,Aa i,Aa j,Aa k,Aa l,Aa n,Aa o,Aa p,Aa q,Aa r,Aa s,Aa t],101⟩)::m),400003⟩)
noncomputable def F96 (a b c d e f g h i j k l m n o p:Int) (R:AV→Mem→Prop):Prop:=
Ff pg KK 55 0 (.loop uQ) ⟨[(0,(AV.agg [Aa a,Aa b,Aa c,Aa d,Aa e,Aa f,Aa g,Aa h,Aa i,Aa j,Aa k,Aa l,Aa m,Aa n,Aa o,Aa p])),(1,(AV.ptr 0 0)),(2,(Aa (0))),(10,(AV.agg [Aa a,Aa b,Aa c,Aa d,Aa e,Aa f,Aa g,Aa h,Aa i,Aa j,Aa k,Aa l,Aa m,Aa n,Aa o,Aa p])),(11,(Aa (0)))],((0,some ⟨[Aa a,Aa b,Aa c,Aa d,Aa e,Aa f,Aa g,Aa h,Aa i,Aa j,Aa k,Aa l,Aa m,Aa n,Aa o,Aa p],101⟩)::[]),4⟩ (Afn R)
noncomputable def Anb:Code:=((Tryz.f120).body).getD .skip
noncomputable def Avp (R:AV→Mem→Prop):A1→St→Prop:=Cm pg Tryz.f120 R
noncomputable def Apw (a:Int) (R:AV→Mem→Prop):Prop:=
As R [] [some (Aa (Int.tmod (IntKind.wrap .i64 ((Int.tmod a (4096))+(4096))) (4096)))]
noncomputable def Au4:Code:=((Tryz.f327).body).getD .skip
noncomputable def Avx (R:AV→Mem→Prop):A1→St→Prop:=Cm pg Tryz.f327 R
noncomputable def Ao0 (a:Nat) (R:AV→Mem→Prop):Prop:=
bQ pg .neq 345 4 a a 3 fun b=>
As R [] [some (Ai b)]
noncomputable def At7:Code:=((Tryz.f349).body).getD .skip
noncomputable def Aux (R:AV→Mem→Prop):A1→St→Prop:=Cm pg Tryz.f349 R
noncomputable def Ap0 (a:Nat) (R:AV→Mem→Prop):Prop:=
A2 pg KK.gl [] 343 [AV.sc (.float .f64 a)] fun b=>
D3 b fun c=>
A4 (Ce pg (.binOp .andNot 322 (.tmp 0) (.tmp 1) 322) 322 [AV.sc (.int .u64 c),AV.sc (.int .u64 (9223372036854775808))] (Al []) 66) fun d=>
D3 d fun e=>
A2 pg KK.gl [] 344 [AV.sc (.int .u64 e)] fun f=>
Hc f fun g=>
As R [] [some (AV.sc (.float .f64 g))]
noncomputable def Auo:Code:=((Tryz.f328).body).getD .skip
noncomputable def Atu (R:AV→Mem→Prop):A1→St→Prop:=Cm pg Tryz.f328 R
noncomputable def Al1 (a:Nat) (b:Int) (R:AV→Mem→Prop):Prop:=
bif (b==(0)) then (
A2 pg KK.gl [] 349 [AV.sc (.float .f64 a)] fun c=>
Hc c fun d=>
bQ pg .gtr 345 4 d 9218868437227405311 70 fun e=>
As R [] [some (Ai e)]) else (
bif (decide (b<(0))) then (
V7 pg 345 a 6 fun f=>
bQ pg .gtr 345 4 f 9218868437227405311 9 fun g=>
As R [] [some (Ai g)]) else (
bQ pg .gtr 345 4 a 9218868437227405311 6 fun h=>
As R [] [some (Ai h)]))
noncomputable def Avy:Code:=((Tryz.f330).body).getD .skip
noncomputable def Au5 (R:AV→Mem→Prop):A1→St→Prop:=Cm pg Tryz.f330 R
noncomputable def Alo (R:AV→Mem→Prop):Prop:=
A2 pg KK.gl [] 344 [AV.sc (.int .u64 (9221120237041090561))] fun a=>
Hc a fun b=>
As R [] [some (AV.sc (.float .f64 b))]
end Go.Proofs.YtkdodbfnocdkdaaGreatDoor
