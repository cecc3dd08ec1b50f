/- A part. -/
import Derived.Test.YtmhnnmfcjdnlhaaGreatDoorX1T
set_option linter.unusedVariables false
set_option maxRecDepth 100000
set_option maxHeartbeats 4000000
namespace Go.Proofs.YtmhnnmfcjdnlhaaGreatDoor
noncomputable def tP:Code:=((Tryz.f35).body).getD .skip
noncomputable def q35 (R:AV→Mem→Prop):Bh→St→Prop:=C8 pg Tryz.f35 R
noncomputable def F35 (a b:Int) (R:AV→Mem→Prop):Prop:=
bif (decide (a<(0))) then (
A2 R ((0,some ⟨[Aa a,Aa b],24⟩)::[]) [some (Aa (4))]) else (
bif (decide (a>(1000000))) then (
A2 R ((0,some ⟨[Aa a,Aa b],24⟩)::[]) [some (Aa (4))]) else (
bif (decide (b<(0))) then (
A2 R ((0,some ⟨[Aa a,Aa b],24⟩)::[]) [some (Aa (4))]) else (
bif (decide (b>(60000))) then (
A2 R ((0,some ⟨[Aa a,Aa b],24⟩)::[]) [some (Aa (4))]) else (
A2 R ((0,some ⟨[Aa a,Aa b],24⟩)::[]) [some (Aa (0))]))))
theorem oW (a b:Int) (R:AV→Mem→Prop) (h:F35 a b R):Own pg KK.gl 35 [AV.agg [Aa a,Aa b]] R:=Bk Ee Tryz.func35 (code:=tP) Bi Bi Bi (X:=F35 a b R) Bi h
noncomputable def c30:Code:=((Tryz.f30).body).getD .skip
noncomputable def q30 (R:AV→Mem→Prop):Bh→St→Prop:=C8 pg Tryz.f30 R
noncomputable def F30 (a b:Int) (R:AV→Mem→Prop):Prop:=
bif (decide (a<(-1000000))) then (
A2 R ((0,some ⟨[Aa a,Aa b],42⟩)::[]) [some (Aa (4))]) else (
bif (decide (a>(1000000))) then (
A2 R ((0,some ⟨[Aa a,Aa b],42⟩)::[]) [some (Aa (4))]) else (
bif (decide (b<(-1000000))) then (
A2 R ((0,some ⟨[Aa a,Aa b],42⟩)::[]) [some (Aa (4))]) else (
bif (decide (b>(1000000))) then (
A2 R ((0,some ⟨[Aa a,Aa b],42⟩)::[]) [some (Aa (4))]) else (
A2 R ((0,some ⟨[Aa a,Aa b],42⟩)::[]) [some (Aa (0))]))))
theorem uN (a b:Int) (R:AV→Mem→Prop) (h:F30 a b R):Own pg KK.gl 30 [AV.agg [Aa a,Aa b]] R:=Bk Ee Tryz.func30 (code:=c30) Bi Bi Bi (X:=F30 a b R) Bi h
noncomputable def Gx:Code:=((Tryz.f17).body).getD .skip
noncomputable def q17 (R:AV→Mem→Prop):Bh→St→Prop:=C8 pg Tryz.f17 R
noncomputable def cF:Code:=Ey Gx 0
noncomputable def cK (R:AV→Mem→Prop):Bh→St→Prop:=Ew pg KK 86 0 Gx 0 (q17 R)
noncomputable def yF (R:AV→Mem→Prop) (N0:St→Prop):Bh→St→Prop:=Ex N0 (cK R)
def T6 (a:AV) (b:Int) (c:AV) (d e:Int) (m:Mem):St:=⟨[(0,a),(2,(Aa b)),(14,c),(15,(Aa d)),(16,(Aa e))],m,100000⟩
noncomputable def eO (l:AV) (p:Int) (n:AV) (j g:Int) (m:Mem) (R:AV→Mem→Prop) (N0:St→Prop):Prop:=
bif (decide (g<j)) then (
Bo (Eb 6 n (Aa g)) fun o=>
Bo (Iv (Am m) 6 o) fun t=>
Ji t fun c8 c9 K5 u v w=>
Af c8 fun a=>
Af c9 fun e=>
Af K5 fun f=>
Af u fun d=>
Af v fun b=>
Af w fun c=>
bif (decide (a<(0))) then (
A2 R ((100004,some ⟨[Aa a,Aa e,Aa f,Aa d,Aa b,Aa c],47⟩)::(100004,some ⟨[Aa (0),Aa (0),Aa (0),Aa (0),Aa (0),Aa (0)],47⟩)::m) [some (Aa (12))]) else (
bif (decide (a>(200000))) then (
A2 R ((100004,some ⟨[Aa a,Aa e,Aa f,Aa d,Aa b,Aa c],47⟩)::(100004,some ⟨[Aa (0),Aa (0),Aa (0),Aa (0),Aa (0),Aa (0)],47⟩)::m) [some (Aa (12))]) else (
bif (decide (g>(0))) then (
Bo (Eb 6 l (Aa (IntKind.wrap .i64 (g-(1))))) fun q=>
Bo (E1 0 q) fun r=>
Bo (E1 0 r) fun s=>
Bo (Fm (Am ((100004,some ⟨[Aa a,Aa e,Aa f,Aa d,Aa b,Aa c],47⟩)::(100004,some ⟨[Aa (0),Aa (0),Aa (0),Aa (0),Aa (0),Aa (0)],47⟩)::m)) s) fun x=>
Af x fun k=>
bif (decide (a≤k)) then (
A2 R ((100004,some ⟨[Aa a,Aa e,Aa f,Aa d,Aa b,Aa c],47⟩)::(100004,some ⟨[Aa (0),Aa (0),Aa (0),Aa (0),Aa (0),Aa (0)],47⟩)::m) [some (Aa (12))]) else (
Bd pg KK.gl ((100004,some ⟨[Aa a,Aa e,Aa f,Aa d,Aa b,Aa c],47⟩)::(100004,some ⟨[Aa (0),Aa (0),Aa (0),Aa (0),Aa (0),Aa (0)],47⟩)::m) 30 [AV.agg [Aa e,Aa f]] fun y=>
Af y fun h=>
bif (h !=(0)) then (
A2 R ((100004,some ⟨[Aa a,Aa e,Aa f,Aa d,Aa b,Aa c],47⟩)::(100004,some ⟨[Aa (0),Aa (0),Aa (0),Aa (0),Aa (0),Aa (0)],47⟩)::m) [some (Aa h)]) else (
bif (decide (d<(0))) then (
A2 R ((100004,some ⟨[Aa a,Aa e,Aa f,Aa d,Aa b,Aa c],47⟩)::(100004,some ⟨[Aa (0),Aa (0),Aa (0),Aa (0),Aa (0),Aa (0)],47⟩)::m) [some (Aa (4))]) else (
bif (decide (d>(60000))) then (
A2 R ((100004,some ⟨[Aa a,Aa e,Aa f,Aa d,Aa b,Aa c],47⟩)::(100004,some ⟨[Aa (0),Aa (0),Aa (0),Aa (0),Aa (0),Aa (0)],47⟩)::m) [some (Aa (4))]) else (
bif (decide (b<(0))) then (
A2 R ((100004,some ⟨[Aa a,Aa e,Aa f,Aa d,Aa b,Aa c],47⟩)::(100004,some ⟨[Aa (0),Aa (0),Aa (0),Aa (0),Aa (0),Aa (0)],47⟩)::m) [some (Aa (4))]) else (
bif (decide (b>(1000000))) then (
A2 R ((100004,some ⟨[Aa a,Aa e,Aa f,Aa d,Aa b,Aa c],47⟩)::(100004,some ⟨[Aa (0),Aa (0),Aa (0),Aa (0),Aa (0),Aa (0)],47⟩)::m) [some (Aa (4))]) else (
bif (decide (c<(0))) then (
A2 R ((100004,some ⟨[Aa a,Aa e,Aa f,Aa d,Aa b,Aa c],47⟩)::(100004,some ⟨[Aa (0),Aa (0),Aa (0),Aa (0),Aa (0),Aa (0)],47⟩)::m) [some (Aa (4))]) else (
bif (decide (c>(60000))) then (
A2 R ((100004,some ⟨[Aa a,Aa e,Aa f,Aa d,Aa b,Aa c],47⟩)::(100004,some ⟨[Aa (0),Aa (0),Aa (0),Aa (0),Aa (0),Aa (0)],47⟩)::m) [some (Aa (4))]) else (
N0 ⟨[(0,l),(2,(Aa p)),(14,n),(15,(Aa j)),(16,(Aa (IntKind.wrap .i64 (g+(1))))),(17,(Ah (decide (g<j)))),(18,(Aa g)),(19,o),(20,(AV.agg [Aa a,Aa e,Aa f,Aa d,Aa b,Aa c])),(4,(AV.ptr 100004 0)),(3,(Aa g)),(21,(AV.ptr 100004 0)),(22,(AV.ptr 100004 0)),(23,(Aa a)),(24,(Ah (decide (a<(0))))),(25,(Ah false)),(26,(AV.ptr 100004 0)),(27,(AV.ptr 100004 0)),(28,(Aa a)),(29,(Ah (decide (a>(200000))))),(30,(Ah (decide (a>(200000))))),(31,(Ah false)),(32,(Aa g)),(33,(Ah (decide (g>(0))))),(34,(Ah true)),(35,(AV.ptr 100004 0)),(36,(AV.ptr 100004 0)),(37,(Aa a)),(38,l),(39,(Aa g)),(40,(Aa (IntKind.wrap .i64 (g-(1))))),(41,q),(42,r),(43,s),(44,(Aa k)),(45,(Ah (decide (a≤k)))),(46,(Ah (decide (a≤k)))),(47,(Ah (decide (a≤k)))),(48,(AV.ptr 100004 0)),(49,(AV.ptr 100004 1)),(50,(AV.agg [Aa e,Aa f])),(51,(Aa h)),(5,(Aa h)),(52,(Aa h)),(53,(Ah (h !=(0)))),(55,(AV.ptr 100004 0)),(56,(AV.ptr 100004 3)),(57,(Aa d)),(58,(Ah (decide (d<(0))))),(59,(Ah false)),(60,(AV.ptr 100004 0)),(61,(AV.ptr 100004 3)),(62,(Aa d)),(63,(Ah (decide (d>(60000))))),(64,(Ah (decide (d>(60000))))),(65,(Ah false)),(66,(AV.ptr 100004 4)),(67,(Aa b)),(68,(Ah (decide (b<(0))))),(69,(Ah (decide (b<(0))))),(70,(Ah false)),(71,(AV.ptr 100004 4)),(72,(Aa b)),(73,(Ah (decide (b>(1000000))))),(74,(Ah (decide (b>(1000000))))),(75,(Ah false)),(76,(AV.ptr 100004 5)),(77,(Aa c)),(78,(Ah (decide (c<(0))))),(79,(Ah (decide (c<(0))))),(80,(Ah false)),(81,(AV.ptr 100004 5)),(82,(Aa c)),(83,(Ah (decide (c>(60000))))),(84,(Ah (decide (c>(60000))))),(85,(Aa (IntKind.wrap .i64 (g+(1)))))],((100004,some ⟨[Aa a,Aa e,Aa f,Aa d,Aa b,Aa c],47⟩)::(100004,some ⟨[Aa (0),Aa (0),Aa (0),Aa (0),Aa (0),Aa (0)],47⟩)::m),100136⟩))))))))) else (
Bd pg KK.gl ((100004,some ⟨[Aa a,Aa e,Aa f,Aa d,Aa b,Aa c],47⟩)::(100004,some ⟨[Aa (0),Aa (0),Aa (0),Aa (0),Aa (0),Aa (0)],47⟩)::m) 30 [AV.agg [Aa e,Aa f]] fun z=>
Af z fun i=>
bif (i !=(0)) then (
A2 R ((100004,some ⟨[Aa a,Aa e,Aa f,Aa d,Aa b,Aa c],47⟩)::(100004,some ⟨[Aa (0),Aa (0),Aa (0),Aa (0),Aa (0),Aa (0)],47⟩)::m) [some (Aa i)]) else (
bif (decide (d<(0))) then (
A2 R ((100004,some ⟨[Aa a,Aa e,Aa f,Aa d,Aa b,Aa c],47⟩)::(100004,some ⟨[Aa (0),Aa (0),Aa (0),Aa (0),Aa (0),Aa (0)],47⟩)::m) [some (Aa (4))]) else (
bif (decide (d>(60000))) then (
A2 R ((100004,some ⟨[Aa a,Aa e,Aa f,Aa d,Aa b,Aa c],47⟩)::(100004,some ⟨[Aa (0),Aa (0),Aa (0),Aa (0),Aa (0),Aa (0)],47⟩)::m) [some (Aa (4))]) else (
bif (decide (b<(0))) then (
A2 R ((100004,some ⟨[Aa a,Aa e,Aa f,Aa d,Aa b,Aa c],47⟩)::(100004,some ⟨[Aa (0),Aa (0),Aa (0),Aa (0),Aa (0),Aa (0)],47⟩)::m) [some (Aa (4))]) else (
bif (decide (b>(1000000))) then (
A2 R ((100004,some ⟨[Aa a,Aa e,Aa f,Aa d,Aa b,Aa c],47⟩)::(100004,some ⟨[Aa (0),Aa (0),Aa (0),Aa (0),Aa (0),Aa (0)],47⟩)::m) [some (Aa (4))]) else (
bif (decide (c<(0))) then (
A2 R ((100004,some ⟨[Aa a,Aa e,Aa f,Aa d,Aa b,Aa c],47⟩)::(100004,some ⟨[Aa (0),Aa (0),Aa (0),Aa (0),Aa (0),Aa (0)],47⟩)::m) [some (Aa (4))]) else (
bif (decide (c>(60000))) then (
A2 R ((100004,some ⟨[Aa a,Aa e,Aa f,Aa d,Aa b,Aa c],47⟩)::(100004,some ⟨[Aa (0),Aa (0),Aa (0),Aa (0),Aa (0),Aa (0)],47⟩)::m) [some (Aa (4))]) else (
N0 ⟨[(0,l),(2,(Aa p)),(14,n),(15,(Aa j)),(16,(Aa (IntKind.wrap .i64 (g+(1))))),(17,(Ah (decide (g<j)))),(18,(Aa g)),(19,o),(20,(AV.agg [Aa a,Aa e,Aa f,Aa d,Aa b,Aa c])),(4,(AV.ptr 100004 0)),(3,(Aa g)),(21,(AV.ptr 100004 0)),(22,(AV.ptr 100004 0)),(23,(Aa a)),(24,(Ah (decide (a<(0))))),(25,(Ah false)),(26,(AV.ptr 100004 0)),(27,(AV.ptr 100004 0)),(28,(Aa a)),(29,(Ah (decide (a>(200000))))),(30,(Ah (decide (a>(200000))))),(31,(Ah false)),(32,(Aa g)),(33,(Ah (decide (g>(0))))),(34,(Ah false)),(35,(AV.B4 [])),(36,(AV.B4 [])),(37,(AV.B4 [])),(38,(AV.B4 [])),(39,(AV.B4 [])),(40,(AV.B4 [])),(41,(AV.B4 [])),(42,(AV.B4 [])),(43,(AV.B4 [])),(44,(AV.B4 [])),(45,(AV.B4 [])),(46,(Ah false)),(47,(Ah false)),(48,(AV.ptr 100004 0)),(49,(AV.ptr 100004 1)),(50,(AV.agg [Aa e,Aa f])),(51,(Aa i)),(5,(Aa i)),(52,(Aa i)),(53,(Ah (i !=(0)))),(55,(AV.ptr 100004 0)),(56,(AV.ptr 100004 3)),(57,(Aa d)),(58,(Ah (decide (d<(0))))),(59,(Ah false)),(60,(AV.ptr 100004 0)),(61,(AV.ptr 100004 3)),(62,(Aa d)),(63,(Ah (decide (d>(60000))))),(64,(Ah (decide (d>(60000))))),(65,(Ah false)),(66,(AV.ptr 100004 4)),(67,(Aa b)),(68,(Ah (decide (b<(0))))),(69,(Ah (decide (b<(0))))),(70,(Ah false)),(71,(AV.ptr 100004 4)),(72,(Aa b)),(73,(Ah (decide (b>(1000000))))),(74,(Ah (decide (b>(1000000))))),(75,(Ah false)),(76,(AV.ptr 100004 5)),(77,(Aa c)),(78,(Ah (decide (c<(0))))),(79,(Ah (decide (c<(0))))),(80,(Ah false)),(81,(AV.ptr 100004 5)),(82,(Aa c)),(83,(Ah (decide (c>(60000))))),(84,(Ah (decide (c>(60000))))),(85,(Aa (IntKind.wrap .i64 (g+(1)))))],((100004,some ⟨[Aa a,Aa e,Aa f,Aa d,Aa b,Aa c],47⟩)::(100004,some ⟨[Aa (0),Aa (0),Aa (0),Aa (0),Aa (0),Aa (0)],47⟩)::m),100136⟩))))))))))) else (
A2 R m [some (Aa (0))])
theorem kG (a:AV) (b:Int) (c:AV) (d e:Int) (m:Mem) (R:AV→Mem→Prop) (N0:St→Prop):W pg KK 86 0 cF (T6 a b c d e m) (yF R N0)=eO a b c d e m R N0:=by kernel_rfl
theorem Ad5 (R:AV→Mem→Prop) {σ:Type} (I:σ→Prop) (a:σ→AV) (b:σ→Int) (c:σ→AV) (d e:σ→Int) (m:σ→Mem) (μ:σ→Nat) (step:∀x,I x→eO (a x) (b x) (c x) (d x) (e x) (m x) R (fun s'=>∃y,I y∧μ y<μ x∧Cl KK 86 0 s' (T6 (a y) (b y) (c y) (d y) (e y) (m y)))) (x:σ) (hx:I x) {s:St} (hw:Cl KK 86 0 s (T6 (a x) (b x) (c x) (d x) (e x) (m x))):C6 pg KK 86 0 (.loop cF) s (cK R):=
 C6.He hw (C6.loops Ee I (fun x=>T6 (a x) (b x) (c x) (d x) (e x) (m x)) μ (fun x hx=>(kG (a x) (b x) (c x) (d x) (e x) (m x) R _).mpr (step x hx)) x hx)
noncomputable def F17 (a:AV) (R:AV→Mem→Prop):Prop:=
Bo (Ed a) fun d=>
Af d fun b=>
bif (decide (b>(64))) then (
A2 R [] [some (Aa (2))]) else (
Bo (Ed a) fun e=>
Af e fun c=>
bif (c==(0)) then (
A2 R [] [some (Aa (3))]) else (
Bo (Ed a) fun f=>
Af f fun g=>
C6 pg KK 86 0 (.loop cF) ⟨[(0,a),(2,(Aa (0))),(7,a),(8,(Aa b)),(9,(Ah (decide (b>(64))))),(6,(Ah (decide (b>(64))))),(11,a),(12,(Aa c)),(13,(Ah (c==(0)))),(10,(Ah (c==(0)))),(14,a),(15,(Aa g)),(16,(Aa (0)))],[],12⟩ (cK R)))
theorem qP (a:AV) (R:AV→Mem→Prop) (h:F17 a R):Own pg KK.gl 17 [a] R:=Bk Ee Tryz.func17 (code:=Gx) Bi Bi Bi (X:=F17 a R) Bi h
noncomputable def c69:Code:=((Tryz.f69).body).getD .skip
noncomputable def q69 (R:AV→Mem→Prop):Bh→St→Prop:=C8 pg Tryz.f69 R
noncomputable def cJ:Code:=Ey c69 0
noncomputable def dW (R:AV→Mem→Prop):Bh→St→Prop:=Ew pg KK 26 0 c69 0 (q69 R)
noncomputable def Ab1 (R:AV→Mem→Prop) (N0:St→Prop):Bh→St→Prop:=Ex N0 (dW R)
def Tn (a:Int) (b:AV) (c d:Int) (m:Mem):St:=⟨[(4,(Aa a)),(14,b),(15,(Aa c)),(16,(Aa d))],m,100000⟩
noncomputable def dK (g:Int) (e:AV) (d b:Int) (m:Mem) (R:AV→Mem→Prop) (N0:St→Prop):Prop:=
bif (decide (b<d)) then (
Bo (Eb 1 e (Aa b)) fun f=>
Bo (Fm (Am m) f) fun c=>
Bd pg KK.gl m 17 [c] fun h=>
Af h fun a=>
bif (a !=(0)) then (
A2 R m [some (Aa a)]) else (
N0 ⟨[(4,(Aa g)),(14,e),(15,(Aa d)),(16,(Aa (IntKind.wrap .i64 (b+(1))))),(17,(Ah (decide (b<d)))),(18,f),(19,c),(7,c),(20,c),(21,(Aa a)),(8,(Aa a)),(22,(Aa a)),(23,(Ah (a !=(0)))),(25,(Aa (IntKind.wrap .i64 (b+(1)))))],m,100074⟩)) else (
A2 R m [some (Aa (0))])
theorem oD (a:Int) (b:AV) (c d:Int) (m:Mem) (R:AV→Mem→Prop) (N0:St→Prop):W pg KK 26 0 cJ (Tn a b c d m) (Ab1 R N0)=dK a b c d m R N0:=by kernel_rfl
theorem Ac5 (R:AV→Mem→Prop) {σ:Type} (I:σ→Prop) (a:σ→Int) (b:σ→AV) (c d:σ→Int) (m:σ→Mem) (μ:σ→Nat) (step:∀x,I x→dK (a x) (b x) (c x) (d x) (m x) R (fun s'=>∃y,I y∧μ y<μ x∧Cl KK 26 0 s' (Tn (a y) (b y) (c y) (d y) (m y)))) (x:σ) (hx:I x) {s:St} (hw:Cl KK 26 0 s (Tn (a x) (b x) (c x) (d x) (m x))):C6 pg KK 26 0 (.loop cJ) s (dW R):=
 C6.He hw (C6.loops Ee I (fun x=>Tn (a x) (b x) (c x) (d x) (m x)) μ (fun x hx=>(oD (a x) (b x) (c x) (d x) (m x) R _).mpr (step x hx)) x hx)
noncomputable def F69 (a b:Int) (d:AV) (R:AV→Mem→Prop):Prop:=
Bd pg KK.gl ((0,some ⟨[Aa a,Aa b],24⟩)::[]) 35 [AV.agg [Aa a,Aa b]] fun e=>
Af e fun c=>
bif (c !=(0)) then (
A2 R ((0,some ⟨[Aa a,Aa b],24⟩)::[]) [some (Aa c)]) else (
Bo (Ed d) fun f=>
Af f fun g=>
C6 pg KK 26 0 (.loop cJ) ⟨[(0,(AV.agg [Aa a,Aa b])),(1,d),(2,(AV.ptr 0 0)),(4,(Aa (0))),(9,(AV.agg [Aa a,Aa b])),(10,(Aa c)),(5,(Aa c)),(11,(Aa c)),(12,(Ah (c !=(0)))),(14,d),(15,(Aa g)),(16,(Aa (0)))],((0,some ⟨[Aa a,Aa b],24⟩)::[]),73⟩ (dW R))
theorem wH (a b:Int) (c:AV) (R:AV→Mem→Prop) (h:F69 a b c R):Own pg KK.gl 69 [AV.agg [Aa a,Aa b],c] R:=Bk Ee Tryz.func69 (code:=c69) Bi Bi Bi (X:=F69 a b c R) Bi h
noncomputable def c82:Code:=((Tryz.f82).body).getD .skip
noncomputable def q82 (R:AV→Mem→Prop):Bh→St→Prop:=C8 pg Tryz.f82 R
noncomputable def F82 (a b:AV) (R:AV→Mem→Prop):Prop:=
Bo (Eb 6 a (Aa (0))) fun c=>
Bo (E1 0 c) fun d=>
Bo (E1 0 d) fun e=>
Bo (Fm (Am []) e) fun f=>
Af f fun g=>
Bo (Eb 6 b (Aa (0))) fun h=>
Bo (E1 0 h) fun i=>
Bo (E1 0 i) fun j=>
Bo (Fm (Am []) j) fun k=>
Af k fun l=>
Bo (Cs pg (.call ⟨.builtin .max,#[.tmp 0,.tmp 1],#[3,3]⟩) 3 [Aa g,Aa l] (Am []) 12) fun m=>
Af m fun n=>
Bo (Ed a) fun o=>
Af o fun p=>
Bo (Eb 6 a (Aa (IntKind.wrap .i64 (p-(1))))) fun q=>
Bo (E1 0 q) fun r=>
Bo (E1 0 r) fun s=>
Bo (Fm (Am []) s) fun t=>
Af t fun u=>
Bo (Ed b) fun v=>
Af v fun w=>
Bo (Eb 6 b (Aa (IntKind.wrap .i64 (w-(1))))) fun x=>
Bo (E1 0 x) fun y=>
Bo (E1 0 y) fun z=>
Bo (Fm (Am []) z) fun aa=>
Af aa fun ab=>
Bo (Cs pg (.call ⟨.builtin .min,#[.tmp 0,.tmp 1],#[3,3]⟩) 3 [Aa u,Aa ab] (Am []) 29) fun ad=>
Af ad fun ae=>
A2 R [] [some (Aa n),some (Aa ae)]
theorem tD (a b:AV) (R:AV→Mem→Prop) (h:F82 a b R):Own pg KK.gl 82 [a,b] R:=Bk Ee Tryz.func82 (code:=c82) Bi Bi Bi (X:=F82 a b R) Bi h
noncomputable def c38:Code:=((Tryz.f38).body).getD .skip
noncomputable def q38 (R:AV→Mem→Prop):Bh→St→Prop:=C8 pg Tryz.f38 R
noncomputable def F38 (a:AV) (R:AV→Mem→Prop):Prop:=
Bo (Eb 6 a (Aa (0))) fun b=>
Bo (E1 0 b) fun c=>
Bo (E1 0 c) fun d=>
Bo (Fm (Am []) d) fun e=>
Af e fun f=>
Bo (Ed a) fun g=>
Af g fun h=>
Bo (Eb 6 a (Aa (IntKind.wrap .i64 (h-(1))))) fun i=>
Bo (E1 0 i) fun j=>
Bo (E1 0 j) fun k=>
Bo (Fm (Am []) k) fun l=>
Af l fun m=>
A2 R [] [some (Aa f),some (Aa m)]
theorem s6 (a:AV) (R:AV→Mem→Prop) (h:F38 a R):Own pg KK.gl 38 [a] R:=Bk Ee Tryz.func38 (code:=c38) Bi Bi Bi (X:=F38 a R) Bi h
noncomputable def c51:Code:=((Tryz.f51).body).getD .skip
noncomputable def q51 (R:AV→Mem→Prop):Bh→St→Prop:=C8 pg Tryz.f51 R
noncomputable def F51 (a b c d e f g:Int) (R:AV→Mem→Prop):Prop:=
A2 R ((0,some ⟨[Aa a,Aa b,Aa c,Aa d,Aa e,Aa f],47⟩)::[]) [some (Aa (IntKind.wrap .i64 (a-g)))]
theorem tF (a b c d e f g:Int) (R:AV→Mem→Prop) (h:F51 a b c d e f g R):Own pg KK.gl 51 [AV.agg [Aa a,Aa b,Aa c,Aa d,Aa e,Aa f],Aa g] R:=Bk Ee Tryz.func51 (code:=c51) Bi Bi Bi (X:=F51 a b c d e f g R) Bi h
noncomputable def zA:Code:=((Tryz.f50).body).getD .skip
noncomputable def q50 (R:AV→Mem→Prop):Bh→St→Prop:=C8 pg Tryz.f50 R
noncomputable def bQ:Code:=Ey zA 0
noncomputable def bB (R:AV→Mem→Prop):Bh→St→Prop:=Ew pg KK 49 0 zA 0 (q50 R)
noncomputable def Aa9 (R:AV→Mem→Prop) (N0:St→Prop):Bh→St→Prop:=Ex N0 (bB R)
def S5 (a:AV) (b:Int) (c:AV) (d:Int) (e:Bool) (f g h:Int) (m:Mem):St:=⟨[(0,a),(1,(Aa b)),(2,c),(6,(Aa d)),(7,(Ah e)),(8,(Aa f)),(9,(Aa g)),(10,(Aa h))],m,100000⟩
noncomputable def eU (e:AV) (f:Int) (g:AV) (s:Int) (t:Bool) (h a c:Int) (m:Mem) (R:AV→Mem→Prop) (N0:St→Prop):Prop:=
bif (decide (a<c)) then (
Bo (Cs pg (.convert 3 118 (.tmp 0)) 118 [Aa (IntKind.wrap .i64 (a+c))] (Am m) 100006) fun v2=>
D7 v2 fun i=>
Bo (Cs pg (.binOp .shr 118 (.tmp 0) (.tmp 1) 118) 118 [AV.sc (.int .u64 i),AV.sc (.int .u64 (1))] (Am m) 100007) fun v4=>
D7 v4 fun j=>
Bo (Cs pg (.convert 118 3 (.tmp 0)) 3 [AV.sc (.int .u64 j)] (Am m) 100008) fun v6=>
Af v6 fun b=>
Bo (Eb 6 e (Aa b)) fun k=>
Bo (Iv (Am m) 6 k) fun v9=>
Ji v9 fun K5 aa ab ad ae af=>
Af K5 fun l=>
Af aa fun n=>
Af ab fun o=>
Af ad fun p=>
Af ae fun q=>
Af af fun r=>
Jt (some g) (some [AV.agg [Aa l,Aa n,Aa o,Aa p,Aa q,Aa r],Aa f]) fun f22 x=>bif KK.pm f22 then Bd pg KK.gl m f22 x (fun u=>
Af u fun d=>
bif (decide (d<(0))) then (
N0 ⟨[(0,e),(1,(Aa f)),(2,g),(6,(Aa s)),(7,(Ah t)),(8,(Aa h)),(9,(Aa (IntKind.wrap .i64 (b+(1))))),(10,(Aa c)),(15,(Aa a)),(16,(Aa c)),(17,(Ah (decide (a<c)))),(18,(Aa a)),(19,(Aa c)),(20,(Aa (IntKind.wrap .i64 (a+c)))),(21,(AV.sc (.int .u64 i))),(22,(AV.sc (.int .u64 j))),(23,(Aa b)),(11,(Aa b)),(24,g),(25,e),(26,(Aa b)),(27,k),(28,(AV.agg [Aa l,Aa n,Aa o,Aa p,Aa q,Aa r])),(29,(Aa f)),(30,(Aa d)),(31,(Ah (decide (d<(0))))),(32,(Aa b)),(33,(Aa (IntKind.wrap .i64 (b+(1)))))],m,100084⟩) else (
N0 ⟨[(0,e),(1,(Aa f)),(2,g),(6,(Aa s)),(7,(Ah t)),(8,(Aa h)),(9,(Aa a)),(10,(Aa b)),(15,(Aa a)),(16,(Aa c)),(17,(Ah (decide (a<c)))),(18,(Aa a)),(19,(Aa c)),(20,(Aa (IntKind.wrap .i64 (a+c)))),(21,(AV.sc (.int .u64 i))),(22,(AV.sc (.int .u64 j))),(23,(Aa b)),(11,(Aa b)),(24,g),(25,e),(26,(Aa b)),(27,k),(28,(AV.agg [Aa l,Aa n,Aa o,Aa p,Aa q,Aa r])),(29,(Aa f)),(30,(Aa d)),(31,(Ah (decide (d<(0))))),(34,(Aa b))],m,100083⟩)) else Ez pg KK.gl m 100016 f22 x fun u y=>
Af u fun d=>
bif (decide (d<(0))) then (
N0 ⟨[(0,e),(1,(Aa f)),(2,g),(6,(Aa s)),(7,(Ah t)),(8,(Aa h)),(9,(Aa (IntKind.wrap .i64 (b+(1))))),(10,(Aa c)),(15,(Aa a)),(16,(Aa c)),(17,(Ah (decide (a<c)))),(18,(Aa a)),(19,(Aa c)),(20,(Aa (IntKind.wrap .i64 (a+c)))),(21,(AV.sc (.int .u64 i))),(22,(AV.sc (.int .u64 j))),(23,(Aa b)),(11,(Aa b)),(24,g),(25,e),(26,(Aa b)),(27,k),(28,(AV.agg [Aa l,Aa n,Aa o,Aa p,Aa q,Aa r])),(29,(Aa f)),(30,(Aa d)),(31,(Ah (decide (d<(0))))),(32,(Aa b)),(33,(Aa (IntKind.wrap .i64 (b+(1)))))],y,100084⟩) else (
N0 ⟨[(0,e),(1,(Aa f)),(2,g),(6,(Aa s)),(7,(Ah t)),(8,(Aa h)),(9,(Aa a)),(10,(Aa b)),(15,(Aa a)),(16,(Aa c)),(17,(Ah (decide (a<c)))),(18,(Aa a)),(19,(Aa c)),(20,(Aa (IntKind.wrap .i64 (a+c)))),(21,(AV.sc (.int .u64 i))),(22,(AV.sc (.int .u64 j))),(23,(Aa b)),(11,(Aa b)),(24,g),(25,e),(26,(Aa b)),(27,k),(28,(AV.agg [Aa l,Aa n,Aa o,Aa p,Aa q,Aa r])),(29,(Aa f)),(30,(Aa d)),(31,(Ah (decide (d<(0))))),(34,(Aa b))],y,100083⟩)) else (
bif (decide (a<h)) then (
Bo (Eb 6 e (Aa a)) fun ag=>
Bo (Iv (Am m) 6 ag) fun ah=>
Ji ah fun Si S6 Qh c29 c30 c31=>
Af Si fun ai=>
Af S6 fun aj=>
Af Qh fun ak=>
Af c29 fun al=>
Af c30 fun am=>
Af c31 fun an=>
Jt (some g) (some [AV.agg [Aa ai,Aa aj,Aa ak,Aa al,Aa am,Aa an],Aa f]) fun f38 z=>bif KK.pm f38 then Bd pg KK.gl m f38 z (fun v=>
Af v fun w=>
A2 R m [some (Aa a),some (Ah (w==(0)))]) else Ez pg KK.gl m 100014 f38 z fun v ao=>
Af v fun w=>
A2 R ao [some (Aa a),some (Ah (w==(0)))]) else (
A2 R m [some (Aa a),some (Ah false)]))
theorem mX (a:AV) (b:Int) (c:AV) (d:Int) (e:Bool) (f g h:Int) (m:Mem) (R:AV→Mem→Prop) (N0:St→Prop):W pg KK 49 0 bQ (S5 a b c d e f g h m) (Aa9 R N0)=eU a b c d e f g h m R N0:=by kernel_rfl
theorem Ae8 (R:AV→Mem→Prop) {σ:Type} (I:σ→Prop) (a:σ→AV) (b:σ→Int) (c:σ→AV) (d:σ→Int) (e:σ→Bool) (f g h:σ→Int) (m:σ→Mem) (μ:σ→Nat) (step:∀x,I x→eU (a x) (b x) (c x) (d x) (e x) (f x) (g x) (h x) (m x) R (fun s'=>∃y,I y∧μ y<μ x∧Cl KK 49 0 s' (S5 (a y) (b y) (c y) (d y) (e y) (f y) (g y) (h y) (m y)))) (x:σ) (hx:I x) {s:St} (hw:Cl KK 49 0 s (S5 (a x) (b x) (c x) (d x) (e x) (f x) (g x) (h x) (m x))):C6 pg KK 49 0 (.loop bQ) s (bB R):=
 C6.He hw (C6.loops Ee I (fun x=>S5 (a x) (b x) (c x) (d x) (e x) (f x) (g x) (h x) (m x)) μ (fun x hx=>(mX (a x) (b x) (c x) (d x) (e x) (f x) (g x) (h x) (m x) R _).mpr (step x hx)) x hx)
noncomputable def F50 (b:AV) (c:Int) (d:AV) (R:AV→Mem→Prop):Prop:=
Bo (Ed b) fun e=>
Af e fun a=>
C6 pg KK 49 0 (.loop bQ) ⟨[(0,b),(1,(Aa c)),(2,d),(6,(Aa (0))),(7,(Ah false)),(12,b),(13,(Aa a)),(8,(Aa a)),(14,(Aa a)),(9,(Aa (0))),(10,(Aa a))],[],8⟩ (bB R)
theorem r9 (a:AV) (b:Int) (c:AV) (R:AV→Mem→Prop) (h:F50 a b c R):Own pg KK.gl 50 [a,Aa b,c] R:=Bk Ee Tryz.func50 (code:=zA) Bi Bi Bi (X:=F50 a b c R) Bi h
noncomputable def c53:Code:=((Tryz.f53).body).getD .skip
noncomputable def q53 (R:AV→Mem→Prop):Bh→St→Prop:=C8 pg Tryz.f53 R
noncomputable def F53 (b a:Int) (R:AV→Mem→Prop):Prop:=
bif (a==(0)) then (
A2 R [] [some (Aa (0)),some (Aa (10))]) else (
bif (b==(-9223372036854775808)) then (
bif (a==(-1)) then (
A2 R [] [some (Aa (0)),some (Aa (2))]) else (
Bo (Cs pg (.binOp .quo 3 (.tmp 0) (.tmp 1) 3) 3 [Aa b,Aa a] (Am []) 14) fun e=>
Af e fun c=>
Bo (Cs pg (.binOp .rem 3 (.tmp 0) (.tmp 1) 3) 3 [Aa b,Aa a] (Am []) 18) fun f=>
Af f fun g=>
bif (g !=(0)) then (
Bo (Cs pg (.binOp .neq 4 (.tmp 0) (.tmp 1) 4) 4 [Ah (decide (b<(0))),Ah (decide (a<(0)))] (Am []) 25) fun h=>
Hr h fun i=>
bif i then (
A2 R [] [some (Aa (IntKind.wrap .i64 (c-(1)))),some (Aa (0))]) else (
A2 R [] [some (Aa c),some (Aa (0))])) else (
A2 R [] [some (Aa c),some (Aa (0))]))) else (
Bo (Cs pg (.binOp .quo 3 (.tmp 0) (.tmp 1) 3) 3 [Aa b,Aa a] (Am []) 12) fun j=>
Af j fun d=>
Bo (Cs pg (.binOp .rem 3 (.tmp 0) (.tmp 1) 3) 3 [Aa b,Aa a] (Am []) 16) fun k=>
Af k fun l=>
bif (l !=(0)) then (
Bo (Cs pg (.binOp .neq 4 (.tmp 0) (.tmp 1) 4) 4 [Ah (decide (b<(0))),Ah (decide (a<(0)))] (Am []) 23) fun m=>
Hr m fun n=>
bif n then (
A2 R [] [some (Aa (IntKind.wrap .i64 (d-(1)))),some (Aa (0))]) else (
A2 R [] [some (Aa d),some (Aa (0))])) else (
A2 R [] [some (Aa d),some (Aa (0))])))
theorem qQ (a b:Int) (R:AV→Mem→Prop) (h:F53 a b R):Own pg KK.gl 53 [Aa a,Aa b] R:=Bk Ee Tryz.func53 (code:=c53) Bi Bi Bi (X:=F53 a b R) Bi h
noncomputable def c52:Code:=((Tryz.f52).body).getD .skip
noncomputable def q52 (R:AV→Mem→Prop):Bh→St→Prop:=C8 pg Tryz.f52 R
noncomputable def F52 (a b c d f e:Int) (R:AV→Mem→Prop):Prop:=
bif (decide (e≤(0))) then (
Bo (N8 [Aa (0),Aa (0)] [(0,1),(1,1)] []) fun g=>
Cw pg (Am ((2,some ⟨[Aa (0),Aa (0)],42⟩)::(1,some ⟨[Aa c,Aa d],42⟩)::(0,some ⟨[Aa a,Aa b],42⟩)::[])) 42 (AV.ptr 2 0) g fun z d1=>
A2 R (Ag ((2,some ⟨[Aa (0),Aa (0)],42⟩)::(1,some ⟨[Aa c,Aa d],42⟩)::(0,some ⟨[Aa a,Aa b],42⟩)::[]) d1) [(Fq pg (Am (Ag ((2,some ⟨[Aa (0),Aa (0)],42⟩)::(1,some ⟨[Aa c,Aa d],42⟩)::(0,some ⟨[Aa a,Aa b],42⟩)::[]) d1)) 42 (AV.ptr 2 0)).map (·.1),some (Aa (10))]) else (
bif (decide (e>(200000))) then (
Bo (N8 [Aa (0),Aa (0)] [(0,1),(1,1)] []) fun h=>
Cw pg (Am ((2,some ⟨[Aa (0),Aa (0)],42⟩)::(1,some ⟨[Aa c,Aa d],42⟩)::(0,some ⟨[Aa a,Aa b],42⟩)::[])) 42 (AV.ptr 2 0) h fun v3 d3=>
A2 R (Ag ((2,some ⟨[Aa (0),Aa (0)],42⟩)::(1,some ⟨[Aa c,Aa d],42⟩)::(0,some ⟨[Aa a,Aa b],42⟩)::[]) d3) [(Fq pg (Am (Ag ((2,some ⟨[Aa (0),Aa (0)],42⟩)::(1,some ⟨[Aa c,Aa d],42⟩)::(0,some ⟨[Aa a,Aa b],42⟩)::[]) d3)) 42 (AV.ptr 2 0)).map (·.1),some (Aa (4))]) else (
bif (decide (f<(0))) then (
Bo (N8 [Aa (0),Aa (0)] [(0,1),(1,1)] []) fun i=>
Cw pg (Am ((2,some ⟨[Aa (0),Aa (0)],42⟩)::(1,some ⟨[Aa c,Aa d],42⟩)::(0,some ⟨[Aa a,Aa b],42⟩)::[])) 42 (AV.ptr 2 0) i fun v5 d5=>
A2 R (Ag ((2,some ⟨[Aa (0),Aa (0)],42⟩)::(1,some ⟨[Aa c,Aa d],42⟩)::(0,some ⟨[Aa a,Aa b],42⟩)::[]) d5) [(Fq pg (Am (Ag ((2,some ⟨[Aa (0),Aa (0)],42⟩)::(1,some ⟨[Aa c,Aa d],42⟩)::(0,some ⟨[Aa a,Aa b],42⟩)::[]) d5)) 42 (AV.ptr 2 0)).map (·.1),some (Aa (4))]) else (
bif (decide (f>e)) then (
Bo (N8 [Aa (0),Aa (0)] [(0,1),(1,1)] []) fun j=>
Cw pg (Am ((2,some ⟨[Aa (0),Aa (0)],42⟩)::(1,some ⟨[Aa c,Aa d],42⟩)::(0,some ⟨[Aa a,Aa b],42⟩)::[])) 42 (AV.ptr 2 0) j fun v7 d7=>
A2 R (Ag ((2,some ⟨[Aa (0),Aa (0)],42⟩)::(1,some ⟨[Aa c,Aa d],42⟩)::(0,some ⟨[Aa a,Aa b],42⟩)::[]) d7) [(Fq pg (Am (Ag ((2,some ⟨[Aa (0),Aa (0)],42⟩)::(1,some ⟨[Aa c,Aa d],42⟩)::(0,some ⟨[Aa a,Aa b],42⟩)::[]) d7)) 42 (AV.ptr 2 0)).map (·.1),some (Aa (4))]) else (
Bd pg KK.gl ((2,some ⟨[Aa (0),Aa (0)],42⟩)::(1,some ⟨[Aa c,Aa d],42⟩)::(0,some ⟨[Aa a,Aa b],42⟩)::[]) 30 [AV.agg [Aa a,Aa b]] fun k=>
Af k fun l=>
bif (l !=(0)) then (
Bo (N8 [Aa (0),Aa (0)] [(0,1),(1,1)] []) fun m=>
Bd pg KK.gl ((2,some ⟨[Aa (0),Aa (0)],42⟩)::(1,some ⟨[Aa c,Aa d],42⟩)::(0,some ⟨[Aa a,Aa b],42⟩)::[]) 30 [AV.agg [Aa a,Aa b]] fun n=>
Af n fun o=>
Cw pg (Am ((2,some ⟨[Aa (0),Aa (0)],42⟩)::(1,some ⟨[Aa c,Aa d],42⟩)::(0,some ⟨[Aa a,Aa b],42⟩)::[])) 42 (AV.ptr 2 0) m fun aa d13=>
A2 R (Ag ((2,some ⟨[Aa (0),Aa (0)],42⟩)::(1,some ⟨[Aa c,Aa d],42⟩)::(0,some ⟨[Aa a,Aa b],42⟩)::[]) d13) [(Fq pg (Am (Ag ((2,some ⟨[Aa (0),Aa (0)],42⟩)::(1,some ⟨[Aa c,Aa d],42⟩)::(0,some ⟨[Aa a,Aa b],42⟩)::[]) d13)) 42 (AV.ptr 2 0)).map (·.1),some (Aa o)]) else (
Bd pg KK.gl ((2,some ⟨[Aa (0),Aa (0)],42⟩)::(1,some ⟨[Aa c,Aa d],42⟩)::(0,some ⟨[Aa a,Aa b],42⟩)::[]) 30 [AV.agg [Aa c,Aa d]] fun p=>
Af p fun q=>
bif (q !=(0)) then (
Bo (N8 [Aa (0),Aa (0)] [(0,1),(1,1)] []) fun r=>
Bd pg KK.gl ((2,some ⟨[Aa (0),Aa (0)],42⟩)::(1,some ⟨[Aa c,Aa d],42⟩)::(0,some ⟨[Aa a,Aa b],42⟩)::[]) 30 [AV.agg [Aa c,Aa d]] fun s=>
Af s fun t=>
Cw pg (Am ((2,some ⟨[Aa (0),Aa (0)],42⟩)::(1,some ⟨[Aa c,Aa d],42⟩)::(0,some ⟨[Aa a,Aa b],42⟩)::[])) 42 (AV.ptr 2 0) r fun ab d19=>
A2 R (Ag ((2,some ⟨[Aa (0),Aa (0)],42⟩)::(1,some ⟨[Aa c,Aa d],42⟩)::(0,some ⟨[Aa a,Aa b],42⟩)::[]) d19) [(Fq pg (Am (Ag ((2,some ⟨[Aa (0),Aa (0)],42⟩)::(1,some ⟨[Aa c,Aa d],42⟩)::(0,some ⟨[Aa a,Aa b],42⟩)::[]) d19)) 42 (AV.ptr 2 0)).map (·.1),some (Aa t)]) else (
Bd pg KK.gl ((2,some ⟨[Aa (0),Aa (0)],42⟩)::(1,some ⟨[Aa c,Aa d],42⟩)::(0,some ⟨[Aa a,Aa b],42⟩)::[]) 53 [Aa (IntKind.wrap .i64 ((IntKind.wrap .i64 (c-a))*f)),Aa e] fun u=>
Fs u fun c21 Z1=>
Af c21 fun v=>
Af Z1 fun ad=>
Bd pg KK.gl ((2,some ⟨[Aa (0),Aa (0)],42⟩)::(1,some ⟨[Aa c,Aa d],42⟩)::(0,some ⟨[Aa a,Aa b],42⟩)::[]) 53 [Aa (IntKind.wrap .i64 ((IntKind.wrap .i64 (d-b))*f)),Aa e] fun w=>
Fs w fun Si S6=>
Af Si fun x=>
Af S6 fun ae=>
Bo (N8 [Aa (0),Aa (0)] [(0,1),(1,1)] [(0,(Aa (IntKind.wrap .i64 (a+v)))),(1,(Aa (IntKind.wrap .i64 (b+x))))]) fun y=>
Cw pg (Am ((2,some ⟨[Aa (0),Aa (0)],42⟩)::(1,some ⟨[Aa c,Aa d],42⟩)::(0,some ⟨[Aa a,Aa b],42⟩)::[])) 42 (AV.ptr 2 0) y fun af d31=>
A2 R (Ag ((2,some ⟨[Aa (0),Aa (0)],42⟩)::(1,some ⟨[Aa c,Aa d],42⟩)::(0,some ⟨[Aa a,Aa b],42⟩)::[]) d31) [(Fq pg (Am (Ag ((2,some ⟨[Aa (0),Aa (0)],42⟩)::(1,some ⟨[Aa c,Aa d],42⟩)::(0,some ⟨[Aa a,Aa b],42⟩)::[]) d31)) 42 (AV.ptr 2 0)).map (·.1),some (Aa (0))]))))))
theorem r8 (a b c d e f:Int) (R:AV→Mem→Prop) (h:F52 a b c d e f R):Own pg KK.gl 52 [AV.agg [Aa a,Aa b],AV.agg [Aa c,Aa d],Aa e,Aa f] R:=Bk Ee Tryz.func52 (code:=c52) Bi Bi Bi (X:=F52 a b c d e f R) Bi h
noncomputable def c54:Code:=((Tryz.f54).body).getD .skip
noncomputable def q54 (R:AV→Mem→Prop):Bh→St→Prop:=C8 pg Tryz.f54 R
noncomputable def F54 (c d:Int) (R:AV→Mem→Prop):Prop:=
Bd pg KK.gl [] 53 [Aa c,Aa d] fun e=>
Fs e fun f g=>
Af f fun b=>
Af g fun a=>
bif (a==(0)) then (
Bo (Cs pg (.binOp .rem 3 (.tmp 0) (.tmp 1) 3) 3 [Aa c,Aa d] (Am []) 78) fun h=>
Af h fun i=>
bif (i !=(0)) then (
A2 R [] [some (Aa (IntKind.wrap .i64 (b+(1)))),some (Aa a)]) else (
A2 R [] [some (Aa b),some (Aa a)])) else (
A2 R [] [some (Aa b),some (Aa a)])
theorem sP (a b:Int) (R:AV→Mem→Prop) (h:F54 a b R):Own pg KK.gl 54 [Aa a,Aa b] R:=Bk Ee Tryz.func54 (code:=c54) Bi Bi Bi (X:=F54 a b R) Bi h
noncomputable def c39:Code:=((Tryz.f39).body).getD .skip
noncomputable def q39 (R:AV→Mem→Prop):Bh→St→Prop:=C8 pg Tryz.f39 R
noncomputable def F39 (e:AV) (d:Int) (R:AV→Mem→Prop):Prop:=
Ez pg KK.gl ((0,some ⟨[Aa (0),Aa (0),Aa (0),Aa (0),Aa (0),Aa (0)],47⟩)::[]) 3 50 [e,Aa d,AV.fn 51 []] fun x a=>
Fs x fun y z=>
Af y fun i=>
Hr z fun b4=>
bif b4 then (
Bo (Eb 6 e (Aa i)) fun v5=>
Bo (Iv (Am a) 6 v5) fun v6=>
Ji v6 fun c7 c8 c9 K5 aa ab=>
Af c7 fun ad=>
Af c8 fun ae=>
Af c9 fun af=>
Af K5 fun ag=>
Af aa fun ah=>
Af ab fun ai=>
Cw pg (Am a) 47 (AV.ptr 0 0) (AV.agg [Aa ad,Aa ae,Aa af,Aa ag,Aa ah,Aa ai]) fun ce d19=>
A2 R (Ag a d19) [(Fq pg (Am (Ag a d19)) 47 (AV.ptr 0 0)).map (·.1)]) else (
J4 (Eb 6 e (Aa (IntKind.wrap .i64 (i-(1))))) fun j d20=>
J4 (Iv (Dw (Ag a d20) (Bv j++([]))) 6 j) fun aj d21=>
Ji aj fun Z1 Zn ak Pn Si S6=>
Af Z1 fun k=>
Af Zn fun l=>
Af ak fun m=>
Af Pn fun n=>
Af Si fun o=>
Af S6 fun p=>
J4 (Eb 6 e (Aa i)) fun q d34=>
J4 (Iv (Dw (Ag (Ag (Ag a d20) d21) d34) (Bv q++([]))) 6 q) fun al d35=>
Ji al fun c36 cX c38 c39 zE rK=>
Af c36 fun r=>
Af cX fun s=>
Af c38 fun t=>
Af c39 fun u=>
Af zE fun v=>
Af rK fun w=>
Cw pg (Dw ((83,some ⟨[Aa (0),Aa (0),Aa (0),Aa (0),Aa (0),Aa (0)],47⟩)::(82,some ⟨[Aa (0),Aa (0),Aa (0),Aa (0),Aa (0),Aa (0)],47⟩)::(Ag (Ag (Ag (Ag a d20) d21) d34) d35)) (Bv (AV.ptr 82 0)++(Bv (AV.agg [Aa k,Aa l,Aa m,Aa n,Aa o,Aa p])++([])))) 47 (AV.ptr 82 0) (AV.agg [Aa k,Aa l,Aa m,Aa n,Aa o,Aa p]) fun cg d48=>
Cw pg (Dw (Ag ((83,some ⟨[Aa (0),Aa (0),Aa (0),Aa (0),Aa (0),Aa (0)],47⟩)::(82,some ⟨[Aa (0),Aa (0),Aa (0),Aa (0),Aa (0),Aa (0)],47⟩)::(Ag (Ag (Ag (Ag a d20) d21) d34) d35)) d48) (Bv (AV.ptr 83 0)++(Bv (AV.agg [Aa r,Aa s,Aa t,Aa u,Aa v,Aa w])++([])))) 47 (AV.ptr 83 0) (AV.agg [Aa r,Aa s,Aa t,Aa u,Aa v,Aa w]) fun ch d49=>
Jj (F4 [0,0,2,7,15,0,0,96,224,0,0,1567,4095] [⟨[],[]⟩,⟨[],[]⟩,⟨[],[]⟩,⟨d20,[]⟩,⟨d21,Bv j++([])⟩,⟨[],[]⟩,⟨[],[]⟩,⟨d34,[]⟩,⟨d35,Bv q++([])⟩,⟨[(82,some ⟨[Aa (0),Aa (0),Aa (0),Aa (0),Aa (0),Aa (0)],47⟩)],[]⟩,⟨[(83,some ⟨[Aa (0),Aa (0),Aa (0),Aa (0),Aa (0),Aa (0)],47⟩)],[]⟩,⟨d48,Bv (AV.ptr 82 0)++(Bv (AV.agg [Aa k,Aa l,Aa m,Aa n,Aa o,Aa p])++([]))⟩,⟨d49,Bv (AV.ptr 83 0)++(Bv (AV.agg [Aa r,Aa s,Aa t,Aa u,Aa v,Aa w])++([]))⟩]) (Bo (Fm (Am (Ag (Ag ((83,some ⟨[Aa (0),Aa (0),Aa (0),Aa (0),Aa (0),Aa (0)],47⟩)::(82,some ⟨[Aa (0),Aa (0),Aa (0),Aa (0),Aa (0),Aa (0)],47⟩)::(Ag (Ag (Ag (Ag a d20) d21) d34) d35)) d48) d49)) (AV.ptr 82 0)) fun am=>
Af am fun f=>
Bo (Fm (Am (Ag (Ag ((83,some ⟨[Aa (0),Aa (0),Aa (0),Aa (0),Aa (0),Aa (0)],47⟩)::(82,some ⟨[Aa (0),Aa (0),Aa (0),Aa (0),Aa (0),Aa (0)],47⟩)::(Ag (Ag (Ag (Ag a d20) d21) d34) d35)) d48) d49)) (AV.ptr 83 0)) fun an=>
Af an fun g=>
Bo (Fm (Am (Ag (Ag ((83,some ⟨[Aa (0),Aa (0),Aa (0),Aa (0),Aa (0),Aa (0)],47⟩)::(82,some ⟨[Aa (0),Aa (0),Aa (0),Aa (0),Aa (0),Aa (0)],47⟩)::(Ag (Ag (Ag (Ag a d20) d21) d34) d35)) d48) d49)) (AV.ptr 82 0)) fun ao=>
Af ao fun h=>
Bo (Iv (Am (Ag (Ag ((83,some ⟨[Aa (0),Aa (0),Aa (0),Aa (0),Aa (0),Aa (0)],47⟩)::(82,some ⟨[Aa (0),Aa (0),Aa (0),Aa (0),Aa (0),Aa (0)],47⟩)::(Ag (Ag (Ag (Ag a d20) d21) d34) d35)) d48) d49)) 2 (AV.ptr 82 1)) fun ap=>
I3 ap fun Nw c58=>
Af Nw fun aq=>
Af c58 fun ar=>
Bo (Iv (Am (Ag (Ag ((83,some ⟨[Aa (0),Aa (0),Aa (0),Aa (0),Aa (0),Aa (0)],47⟩)::(82,some ⟨[Aa (0),Aa (0),Aa (0),Aa (0),Aa (0),Aa (0)],47⟩)::(Ag (Ag (Ag (Ag a d20) d21) d34) d35)) d48) d49)) 2 (AV.ptr 83 1)) fun au=>
I3 au fun c62 tM=>
Af c62 fun av=>
Af tM fun aw=>
Bd pg KK.gl (Ag (Ag ((83,some ⟨[Aa (0),Aa (0),Aa (0),Aa (0),Aa (0),Aa (0)],47⟩)::(82,some ⟨[Aa (0),Aa (0),Aa (0),Aa (0),Aa (0),Aa (0)],47⟩)::(Ag (Ag (Ag (Ag a d20) d21) d34) d35)) d48) d49) 52 [AV.agg [Aa aq,Aa ar],AV.agg [Aa av,Aa aw],Aa (IntKind.wrap .i64 (d-f)),Aa (IntKind.wrap .i64 (g-h))] fun ax=>
Fs ax fun c67 c68=>
I3 c67 fun c69 c70=>
Af c69 fun b=>
Af c70 fun c=>
Af c68 fun ci=>
Bo (Fm (Am ((175,some ⟨[Aa b,Aa c],42⟩)::(175,some ⟨[Aa (0),Aa (0)],42⟩)::(Ag (Ag ((83,some ⟨[Aa (0),Aa (0),Aa (0),Aa (0),Aa (0),Aa (0)],47⟩)::(82,some ⟨[Aa (0),Aa (0),Aa (0),Aa (0),Aa (0),Aa (0)],47⟩)::(Ag (Ag (Ag (Ag a d20) d21) d34) d35)) d48) d49))) (AV.ptr 83 3)) fun ay=>
Af ay fun az=>
Bo (Fm (Am ((175,some ⟨[Aa b,Aa c],42⟩)::(175,some ⟨[Aa (0),Aa (0)],42⟩)::(Ag (Ag ((83,some ⟨[Aa (0),Aa (0),Aa (0),Aa (0),Aa (0),Aa (0)],47⟩)::(82,some ⟨[Aa (0),Aa (0),Aa (0),Aa (0),Aa (0),Aa (0)],47⟩)::(Ag (Ag (Ag (Ag a d20) d21) d34) d35)) d48) d49))) (AV.ptr 82 3)) fun ba=>
Af ba fun bb=>
Bd pg KK.gl ((175,some ⟨[Aa b,Aa c],42⟩)::(175,some ⟨[Aa (0),Aa (0)],42⟩)::(Ag (Ag ((83,some ⟨[Aa (0),Aa (0),Aa (0),Aa (0),Aa (0),Aa (0)],47⟩)::(82,some ⟨[Aa (0),Aa (0),Aa (0),Aa (0),Aa (0),Aa (0)],47⟩)::(Ag (Ag (Ag (Ag a d20) d21) d34) d35)) d48) d49)) 53 [Aa (IntKind.wrap .i64 ((IntKind.wrap .i64 (az-bb))*(IntKind.wrap .i64 (d-f)))),Aa (IntKind.wrap .i64 (g-h))] fun bc=>
Fs bc fun bd be=>
Af bd fun bf=>
Af be fun cj=>
Bo (Fm (Am ((175,some ⟨[Aa b,Aa c],42⟩)::(175,some ⟨[Aa (0),Aa (0)],42⟩)::(Ag (Ag ((83,some ⟨[Aa (0),Aa (0),Aa (0),Aa (0),Aa (0),Aa (0)],47⟩)::(82,some ⟨[Aa (0),Aa (0),Aa (0),Aa (0),Aa (0),Aa (0)],47⟩)::(Ag (Ag (Ag (Ag a d20) d21) d34) d35)) d48) d49))) (AV.ptr 83 4)) fun bg=>
Af bg fun bh=>
Bo (Fm (Am ((175,some ⟨[Aa b,Aa c],42⟩)::(175,some ⟨[Aa (0),Aa (0)],42⟩)::(Ag (Ag ((83,some ⟨[Aa (0),Aa (0),Aa (0),Aa (0),Aa (0),Aa (0)],47⟩)::(82,some ⟨[Aa (0),Aa (0),Aa (0),Aa (0),Aa (0),Aa (0)],47⟩)::(Ag (Ag (Ag (Ag a d20) d21) d34) d35)) d48) d49))) (AV.ptr 82 4)) fun bi=>
Af bi fun bj=>
Bd pg KK.gl ((175,some ⟨[Aa b,Aa c],42⟩)::(175,some ⟨[Aa (0),Aa (0)],42⟩)::(Ag (Ag ((83,some ⟨[Aa (0),Aa (0),Aa (0),Aa (0),Aa (0),Aa (0)],47⟩)::(82,some ⟨[Aa (0),Aa (0),Aa (0),Aa (0),Aa (0),Aa (0)],47⟩)::(Ag (Ag (Ag (Ag a d20) d21) d34) d35)) d48) d49)) 54 [Aa (IntKind.wrap .i64 ((IntKind.wrap .i64 (bh-bj))*(IntKind.wrap .i64 (d-f)))),Aa (IntKind.wrap .i64 (g-h))] fun bk=>
Fs bk fun yW c89=>
Af yW fun bl=>
Af c89 fun ck=>
Bo (Fm (Am ((175,some ⟨[Aa b,Aa c],42⟩)::(175,some ⟨[Aa (0),Aa (0)],42⟩)::(Ag (Ag ((83,some ⟨[Aa (0),Aa (0),Aa (0),Aa (0),Aa (0),Aa (0)],47⟩)::(82,some ⟨[Aa (0),Aa (0),Aa (0),Aa (0),Aa (0),Aa (0)],47⟩)::(Ag (Ag (Ag (Ag a d20) d21) d34) d35)) d48) d49))) (AV.ptr 83 5)) fun bm=>
Af bm fun bn=>
Bo (Fm (Am ((175,some ⟨[Aa b,Aa c],42⟩)::(175,some ⟨[Aa (0),Aa (0)],42⟩)::(Ag (Ag ((83,some ⟨[Aa (0),Aa (0),Aa (0),Aa (0),Aa (0),Aa (0)],47⟩)::(82,some ⟨[Aa (0),Aa (0),Aa (0),Aa (0),Aa (0),Aa (0)],47⟩)::(Ag (Ag (Ag (Ag a d20) d21) d34) d35)) d48) d49))) (AV.ptr 82 5)) fun bo=>
Af bo fun bp=>
Bd pg KK.gl ((175,some ⟨[Aa b,Aa c],42⟩)::(175,some ⟨[Aa (0),Aa (0)],42⟩)::(Ag (Ag ((83,some ⟨[Aa (0),Aa (0),Aa (0),Aa (0),Aa (0),Aa (0)],47⟩)::(82,some ⟨[Aa (0),Aa (0),Aa (0),Aa (0),Aa (0),Aa (0)],47⟩)::(Ag (Ag (Ag (Ag a d20) d21) d34) d35)) d48) d49)) 54 [Aa (IntKind.wrap .i64 ((IntKind.wrap .i64 (bn-bp))*(IntKind.wrap .i64 (d-f)))),Aa (IntKind.wrap .i64 (g-h))] fun bq=>
Fs bq fun br bs=>
Af br fun bt=>
Af bs fun cl=>
Bo (Fm (Am ((175,some ⟨[Aa b,Aa c],42⟩)::(175,some ⟨[Aa (0),Aa (0)],42⟩)::(Ag (Ag ((83,some ⟨[Aa (0),Aa (0),Aa (0),Aa (0),Aa (0),Aa (0)],47⟩)::(82,some ⟨[Aa (0),Aa (0),Aa (0),Aa (0),Aa (0),Aa (0)],47⟩)::(Ag (Ag (Ag (Ag a d20) d21) d34) d35)) d48) d49))) (AV.ptr 82 3)) fun bu=>
Af bu fun bv=>
Bo (N8 [Aa (0),Aa (0),Aa (0),Aa (0)] [(0,1),(1,2),(3,1)] [(0,(Aa d)),(1,(AV.agg [Aa b,Aa c])),(2,(Aa (IntKind.wrap .i64 (bv+bf))))]) fun bw=>
Bo (Fm (Am ((175,some ⟨[Aa b,Aa c],42⟩)::(175,some ⟨[Aa (0),Aa (0)],42⟩)::(Ag (Ag ((83,some ⟨[Aa (0),Aa (0),Aa (0),Aa (0),Aa (0),Aa (0)],47⟩)::(82,some ⟨[Aa (0),Aa (0),Aa (0),Aa (0),Aa (0),Aa (0)],47⟩)::(Ag (Ag (Ag (Ag a d20) d21) d34) d35)) d48) d49))) (AV.ptr 82 4)) fun bz=>
Af bz fun ca=>
Bo (Fm (Am ((175,some ⟨[Aa b,Aa c],42⟩)::(175,some ⟨[Aa (0),Aa (0)],42⟩)::(Ag (Ag ((83,some ⟨[Aa (0),Aa (0),Aa (0),Aa (0),Aa (0),Aa (0)],47⟩)::(82,some ⟨[Aa (0),Aa (0),Aa (0),Aa (0),Aa (0),Aa (0)],47⟩)::(Ag (Ag (Ag (Ag a d20) d21) d34) d35)) d48) d49))) (AV.ptr 82 5)) fun cb=>
Af cb fun cc=>
Bo (N8 [Aa (0),Aa (0),Aa (0),Aa (0),Aa (0),Aa (0)] [(0,4),(4,1),(5,1)] [(0,bw),(1,(Aa (IntKind.wrap .i64 (ca+bl)))),(2,(Aa (IntKind.wrap .i64 (cc+bt))))]) fun cd=>
Cw pg (Am ((175,some ⟨[Aa b,Aa c],42⟩)::(175,some ⟨[Aa (0),Aa (0)],42⟩)::(Ag (Ag ((83,some ⟨[Aa (0),Aa (0),Aa (0),Aa (0),Aa (0),Aa (0)],47⟩)::(82,some ⟨[Aa (0),Aa (0),Aa (0),Aa (0),Aa (0),Aa (0)],47⟩)::(Ag (Ag (Ag (Ag a d20) d21) d34) d35)) d48) d49))) 47 (AV.ptr 0 0) cd fun cm d109=>
A2 R (Ag ((175,some ⟨[Aa b,Aa c],42⟩)::(175,some ⟨[Aa (0),Aa (0)],42⟩)::(Ag (Ag ((83,some ⟨[Aa (0),Aa (0),Aa (0),Aa (0),Aa (0),Aa (0)],47⟩)::(82,some ⟨[Aa (0),Aa (0),Aa (0),Aa (0),Aa (0),Aa (0)],47⟩)::(Ag (Ag (Ag (Ag a d20) d21) d34) d35)) d48) d49)) d109) [(Fq pg (Am (Ag ((175,some ⟨[Aa b,Aa c],42⟩)::(175,some ⟨[Aa (0),Aa (0)],42⟩)::(Ag (Ag ((83,some ⟨[Aa (0),Aa (0),Aa (0),Aa (0),Aa (0),Aa (0)],47⟩)::(82,some ⟨[Aa (0),Aa (0),Aa (0),Aa (0),Aa (0),Aa (0)],47⟩)::(Ag (Ag (Ag (Ag a d20) d21) d34) d35)) d48) d49)) d109)) 47 (AV.ptr 0 0)).map (·.1)]))
theorem uD (a:AV) (b:Int) (R:AV→Mem→Prop) (h:F39 a b R):Own pg KK.gl 39 [a,Aa b] R:=Bk Ee Tryz.func39 (code:=c39) Bi Bi Bi (X:=F39 a b R) Bi h
noncomputable def c21:Code:=((Tryz.f21).body).getD .skip
noncomputable def q21 (R:AV→Mem→Prop):Bh→St→Prop:=C8 pg Tryz.f21 R
noncomputable def F21 (a:AV) (b:Int) (R:AV→Mem→Prop):Prop:=
Bd pg KK.gl ((0,some ⟨[Aa (0),Aa (0),Aa (0),Aa (0),Aa (0),Aa (0)],47⟩)::[]) 17 [a] fun j=>
Af j fun c=>
bif (c !=(0)) then (
Bo (N8 [Aa (0),Aa (0),Aa (0),Aa (0),Aa (0),Aa (0)] [(0,4),(4,1),(5,1)] []) fun k=>
Cw pg (Am ((0,some ⟨[Aa (0),Aa (0),Aa (0),Aa (0),Aa (0),Aa (0)],47⟩)::[])) 47 (AV.ptr 0 0) k fun u d3=>
A2 R (Ag ((0,some ⟨[Aa (0),Aa (0),Aa (0),Aa (0),Aa (0),Aa (0)],47⟩)::[]) d3) [(Fq pg (Am (Ag ((0,some ⟨[Aa (0),Aa (0),Aa (0),Aa (0),Aa (0),Aa (0)],47⟩)::[]) d3)) 47 (AV.ptr 0 0)).map (·.1),some (Aa c)]) else (
Bd pg KK.gl ((0,some ⟨[Aa (0),Aa (0),Aa (0),Aa (0),Aa (0),Aa (0)],47⟩)::[]) 38 [a] fun l=>
Fs l fun c5 c6=>
Af c5 fun m=>
Af c6 fun n=>
bif (decide (b<m)) then (
Bo (N8 [Aa (0),Aa (0),Aa (0),Aa (0),Aa (0),Aa (0)] [(0,4),(4,1),(5,1)] []) fun o=>
Cw pg (Am ((0,some ⟨[Aa (0),Aa (0),Aa (0),Aa (0),Aa (0),Aa (0)],47⟩)::[])) 47 (AV.ptr 0 0) o fun v d10=>
A2 R (Ag ((0,some ⟨[Aa (0),Aa (0),Aa (0),Aa (0),Aa (0),Aa (0)],47⟩)::[]) d10) [(Fq pg (Am (Ag ((0,some ⟨[Aa (0),Aa (0),Aa (0),Aa (0),Aa (0),Aa (0)],47⟩)::[]) d10)) 47 (AV.ptr 0 0)).map (·.1),some (Aa (12))]) else (
bif (decide (b>n)) then (
Bo (N8 [Aa (0),Aa (0),Aa (0),Aa (0),Aa (0),Aa (0)] [(0,4),(4,1),(5,1)] []) fun p=>
Cw pg (Am ((0,some ⟨[Aa (0),Aa (0),Aa (0),Aa (0),Aa (0),Aa (0)],47⟩)::[])) 47 (AV.ptr 0 0) p fun w d12=>
A2 R (Ag ((0,some ⟨[Aa (0),Aa (0),Aa (0),Aa (0),Aa (0),Aa (0)],47⟩)::[]) d12) [(Fq pg (Am (Ag ((0,some ⟨[Aa (0),Aa (0),Aa (0),Aa (0),Aa (0),Aa (0)],47⟩)::[]) d12)) 47 (AV.ptr 0 0)).map (·.1),some (Aa (12))]) else (
Bd pg KK.gl ((0,some ⟨[Aa (0),Aa (0),Aa (0),Aa (0),Aa (0),Aa (0)],47⟩)::[]) 39 [a,Aa b] fun q=>
Ji q fun r s t Gx oY vP=>
Af r fun d=>
Af s fun e=>
Af t fun f=>
Af Gx fun g=>
Af oY fun h=>
Af vP fun i=>
A2 R ((0,some ⟨[Aa d,Aa e,Aa f,Aa g,Aa h,Aa i],47⟩)::(0,some ⟨[Aa (0),Aa (0),Aa (0),Aa (0),Aa (0),Aa (0)],47⟩)::[]) [some (AV.agg [Aa d,Aa e,Aa f,Aa g,Aa h,Aa i]),some (Aa (0))])))
theorem vV (a:AV) (b:Int) (R:AV→Mem→Prop) (h:F21 a b R):Own pg KK.gl 21 [a,Aa b] R:=Bk Ee Tryz.func21 (code:=c21) Bi Bi Bi (X:=F21 a b R) Bi h
noncomputable def c42:Code:=((Tryz.f42).body).getD .skip
noncomputable def q42 (R:AV→Mem→Prop):Bh→St→Prop:=C8 pg Tryz.f42 R
noncomputable def F42 (a b c d:Int) (R:AV→Mem→Prop):Prop:=
Bo (N8 [Aa (0),Aa (0)] [(0,1),(1,1)] [(0,(Aa (IntKind.wrap .i64 (a-c)))),(1,(Aa (IntKind.wrap .i64 (b-d))))]) fun e=>
Cw pg (Am ((2,some ⟨[Aa (0),Aa (0)],42⟩)::(1,some ⟨[Aa c,Aa d],42⟩)::(0,some ⟨[Aa a,Aa b],42⟩)::[])) 42 (AV.ptr 2 0) e fun f d1=>
A2 R (Ag ((2,some ⟨[Aa (0),Aa (0)],42⟩)::(1,some ⟨[Aa c,Aa d],42⟩)::(0,some ⟨[Aa a,Aa b],42⟩)::[]) d1) [(Fq pg (Am (Ag ((2,some ⟨[Aa (0),Aa (0)],42⟩)::(1,some ⟨[Aa c,Aa d],42⟩)::(0,some ⟨[Aa a,Aa b],42⟩)::[]) d1)) 42 (AV.ptr 2 0)).map (·.1)]
theorem uS (a b c d:Int) (R:AV→Mem→Prop) (h:F42 a b c d R):Own pg KK.gl 42 [AV.agg [Aa a,Aa b],AV.agg [Aa c,Aa d]] R:=Bk Ee Tryz.func42 (code:=c42) Bi Bi Bi (X:=F42 a b c d R) Bi h
noncomputable def c78:Code:=((Tryz.f78).body).getD .skip
noncomputable def q78 (R:AV→Mem→Prop):Bh→St→Prop:=C8 pg Tryz.f78 R
noncomputable def F78 (a b c d:Int) (R:AV→Mem→Prop):Prop:=
A2 R ((1,some ⟨[Aa c,Aa d],42⟩)::(0,some ⟨[Aa a,Aa b],42⟩)::[]) [some (Aa (IntKind.wrap .i64 ((IntKind.wrap .i64 (a*c))+(IntKind.wrap .i64 (b*d)))))]
theorem pZ (a b c d:Int) (R:AV→Mem→Prop) (h:F78 a b c d R):Own pg KK.gl 78 [AV.agg [Aa a,Aa b],AV.agg [Aa c,Aa d]] R:=Bk Ee Tryz.func78 (code:=c78) Bi Bi Bi (X:=F78 a b c d R) Bi h
noncomputable def c60:Code:=((Tryz.f60).body).getD .skip
noncomputable def q60 (R:AV→Mem→Prop):Bh→St→Prop:=C8 pg Tryz.f60 R
noncomputable def F60 (a b c d:Int) (R:AV→Mem→Prop):Prop:=
Bd pg KK.gl ((1,some ⟨[Aa c,Aa d],42⟩)::(0,some ⟨[Aa a,Aa b],42⟩)::[]) 42 [AV.agg [Aa a,Aa b],AV.agg [Aa c,Aa d]] fun g=>
I3 g fun h i=>
Af h fun e=>
Af i fun f=>
Bd pg KK.gl ((69,some ⟨[Aa e,Aa f],42⟩)::(69,some ⟨[Aa (0),Aa (0)],42⟩)::(1,some ⟨[Aa c,Aa d],42⟩)::(0,some ⟨[Aa a,Aa b],42⟩)::[]) 78 [AV.agg [Aa e,Aa f],AV.agg [Aa e,Aa f]] fun j=>
Af j fun k=>
A2 R ((69,some ⟨[Aa e,Aa f],42⟩)::(69,some ⟨[Aa (0),Aa (0)],42⟩)::(1,some ⟨[Aa c,Aa d],42⟩)::(0,some ⟨[Aa a,Aa b],42⟩)::[]) [some (Aa k)]
theorem vE (a b c d:Int) (R:AV→Mem→Prop) (h:F60 a b c d R):Own pg KK.gl 60 [AV.agg [Aa a,Aa b],AV.agg [Aa c,Aa d]] R:=Bk Ee Tryz.func60 (code:=c60) Bi Bi Bi (X:=F60 a b c d R) Bi h
noncomputable def c61:Code:=((Tryz.f61).body).getD .skip
noncomputable def q61 (R:AV→Mem→Prop):Bh→St→Prop:=C8 pg Tryz.f61 R
noncomputable def bC:Code:=Ey c61 0
noncomputable def dQ (R:AV→Mem→Prop):Bh→St→Prop:=Ew pg KK 27 0 c61 0 (q61 R)
noncomputable def Aa1 (R:AV→Mem→Prop) (N0:St→Prop):Bh→St→Prop:=Ex N0 (dQ R)
def Uc (a b c d:Int) (m:Mem):St:=⟨[(0,(Aa a)),(2,(Aa b)),(3,(Aa c)),(4,(Aa d))],m,100000⟩
noncomputable def dN (c d a b:Int) (m:Mem) (R:AV→Mem→Prop) (N0:St→Prop):Prop:=
bif (decide (a<b)) then (
bif (decide ((IntKind.wrap .i64 ((IntKind.wrap .i64 (a+(IntKind.wrap .i64 (Int.tdiv (IntKind.wrap .i64 ((IntKind.wrap .i64 (b-a))+(1))) (2)))))*(IntKind.wrap .i64 (a+(IntKind.wrap .i64 (Int.tdiv (IntKind.wrap .i64 ((IntKind.wrap .i64 (b-a))+(1))) (2)))))))≤c)) then (
N0 ⟨[(0,(Aa c)),(2,(Aa d)),(3,(Aa (IntKind.wrap .i64 (a+(IntKind.wrap .i64 (Int.tdiv (IntKind.wrap .i64 ((IntKind.wrap .i64 (b-a))+(1))) (2))))))),(4,(Aa b)),(8,(Aa a)),(9,(Aa b)),(10,(Ah (decide (a<b)))),(11,(Aa a)),(12,(Aa b)),(13,(Aa a)),(14,(Aa (IntKind.wrap .i64 (b-a)))),(15,(Aa (IntKind.wrap .i64 ((IntKind.wrap .i64 (b-a))+(1))))),(16,(Aa (IntKind.wrap .i64 (Int.tdiv (IntKind.wrap .i64 ((IntKind.wrap .i64 (b-a))+(1))) (2))))),(17,(Aa (IntKind.wrap .i64 (a+(IntKind.wrap .i64 (Int.tdiv (IntKind.wrap .i64 ((IntKind.wrap .i64 (b-a))+(1))) (2))))))),(5,(Aa (IntKind.wrap .i64 (a+(IntKind.wrap .i64 (Int.tdiv (IntKind.wrap .i64 ((IntKind.wrap .i64 (b-a))+(1))) (2))))))),(18,(Aa (IntKind.wrap .i64 (a+(IntKind.wrap .i64 (Int.tdiv (IntKind.wrap .i64 ((IntKind.wrap .i64 (b-a))+(1))) (2))))))),(19,(Aa (IntKind.wrap .i64 (a+(IntKind.wrap .i64 (Int.tdiv (IntKind.wrap .i64 ((IntKind.wrap .i64 (b-a))+(1))) (2))))))),(20,(Aa (IntKind.wrap .i64 ((IntKind.wrap .i64 (a+(IntKind.wrap .i64 (Int.tdiv (IntKind.wrap .i64 ((IntKind.wrap .i64 (b-a))+(1))) (2)))))*(IntKind.wrap .i64 (a+(IntKind.wrap .i64 (Int.tdiv (IntKind.wrap .i64 ((IntKind.wrap .i64 (b-a))+(1))) (2))))))))),(21,(Aa c)),(22,(Ah (decide ((IntKind.wrap .i64 ((IntKind.wrap .i64 (a+(IntKind.wrap .i64 (Int.tdiv (IntKind.wrap .i64 ((IntKind.wrap .i64 (b-a))+(1))) (2)))))*(IntKind.wrap .i64 (a+(IntKind.wrap .i64 (Int.tdiv (IntKind.wrap .i64 ((IntKind.wrap .i64 (b-a))+(1))) (2)))))))≤c)))),(23,(Aa (IntKind.wrap .i64 (a+(IntKind.wrap .i64 (Int.tdiv (IntKind.wrap .i64 ((IntKind.wrap .i64 (b-a))+(1))) (2)))))))],m,100018⟩) else (
N0 ⟨[(0,(Aa c)),(2,(Aa d)),(3,(Aa a)),(4,(Aa (IntKind.wrap .i64 ((IntKind.wrap .i64 (a+(IntKind.wrap .i64 (Int.tdiv (IntKind.wrap .i64 ((IntKind.wrap .i64 (b-a))+(1))) (2)))))-(1))))),(8,(Aa a)),(9,(Aa b)),(10,(Ah (decide (a<b)))),(11,(Aa a)),(12,(Aa b)),(13,(Aa a)),(14,(Aa (IntKind.wrap .i64 (b-a)))),(15,(Aa (IntKind.wrap .i64 ((IntKind.wrap .i64 (b-a))+(1))))),(16,(Aa (IntKind.wrap .i64 (Int.tdiv (IntKind.wrap .i64 ((IntKind.wrap .i64 (b-a))+(1))) (2))))),(17,(Aa (IntKind.wrap .i64 (a+(IntKind.wrap .i64 (Int.tdiv (IntKind.wrap .i64 ((IntKind.wrap .i64 (b-a))+(1))) (2))))))),(5,(Aa (IntKind.wrap .i64 (a+(IntKind.wrap .i64 (Int.tdiv (IntKind.wrap .i64 ((IntKind.wrap .i64 (b-a))+(1))) (2))))))),(18,(Aa (IntKind.wrap .i64 (a+(IntKind.wrap .i64 (Int.tdiv (IntKind.wrap .i64 ((IntKind.wrap .i64 (b-a))+(1))) (2))))))),(19,(Aa (IntKind.wrap .i64 (a+(IntKind.wrap .i64 (Int.tdiv (IntKind.wrap .i64 ((IntKind.wrap .i64 (b-a))+(1))) (2))))))),(20,(Aa (IntKind.wrap .i64 ((IntKind.wrap .i64 (a+(IntKind.wrap .i64 (Int.tdiv (IntKind.wrap .i64 ((IntKind.wrap .i64 (b-a))+(1))) (2)))))*(IntKind.wrap .i64 (a+(IntKind.wrap .i64 (Int.tdiv (IntKind.wrap .i64 ((IntKind.wrap .i64 (b-a))+(1))) (2))))))))),(21,(Aa c)),(22,(Ah (decide ((IntKind.wrap .i64 ((IntKind.wrap .i64 (a+(IntKind.wrap .i64 (Int.tdiv (IntKind.wrap .i64 ((IntKind.wrap .i64 (b-a))+(1))) (2)))))*(IntKind.wrap .i64 (a+(IntKind.wrap .i64 (Int.tdiv (IntKind.wrap .i64 ((IntKind.wrap .i64 (b-a))+(1))) (2)))))))≤c)))),(24,(Aa (IntKind.wrap .i64 (a+(IntKind.wrap .i64 (Int.tdiv (IntKind.wrap .i64 ((IntKind.wrap .i64 (b-a))+(1))) (2))))))),(25,(Aa (IntKind.wrap .i64 ((IntKind.wrap .i64 (a+(IntKind.wrap .i64 (Int.tdiv (IntKind.wrap .i64 ((IntKind.wrap .i64 (b-a))+(1))) (2)))))-(1)))))],m,100019⟩)) else (
A2 R m [some (Aa a)])
theorem jW (a b c d:Int) (m:Mem) (R:AV→Mem→Prop) (N0:St→Prop):W pg KK 27 0 bC (Uc a b c d m) (Aa1 R N0)=dN a b c d m R N0:=by kernel_rfl
theorem Ac3 (R:AV→Mem→Prop) {σ:Type} (I:σ→Prop) (a b c d:σ→Int) (m:σ→Mem) (μ:σ→Nat) (step:∀x,I x→dN (a x) (b x) (c x) (d x) (m x) R (fun s'=>∃y,I y∧μ y<μ x∧Cl KK 27 0 s' (Uc (a y) (b y) (c y) (d y) (m y)))) (x:σ) (hx:I x) {s:St} (hw:Cl KK 27 0 s (Uc (a x) (b x) (c x) (d x) (m x))):C6 pg KK 27 0 (.loop bC) s (dQ R):=
 C6.He hw (C6.loops Ee I (fun x=>Uc (a x) (b x) (c x) (d x) (m x)) μ (fun x hx=>(jW (a x) (b x) (c x) (d x) (m x) R _).mpr (step x hx)) x hx)
noncomputable def F61 (a:Int) (R:AV→Mem→Prop):Prop:=
bif (decide (a≤(0))) then (
A2 R [] [some (Aa (0))]) else (
C6 pg KK 27 0 (.loop bC) ⟨[(0,(Aa a)),(2,(Aa (0))),(6,(Aa a)),(7,(Ah (decide (a≤(0))))),(3,(Aa (0))),(4,(Aa (3037000499)))],[],5⟩ (dQ R))
theorem xF (a:Int) (R:AV→Mem→Prop) (h:F61 a R):Own pg KK.gl 61 [Aa a] R:=Bk Ee Tryz.func61 (code:=c61) Bi Bi Bi (X:=F61 a R) Bi h
noncomputable def c43:Code:=((Tryz.f43).body).getD .skip
noncomputable def q43 (R:AV→Mem→Prop):Bh→St→Prop:=C8 pg Tryz.f43 R
noncomputable def F43 (b c d e:Int) (R:AV→Mem→Prop):Prop:=
Bd pg KK.gl ((1,some ⟨[Aa d,Aa e],42⟩)::(0,some ⟨[Aa b,Aa c],42⟩)::[]) 60 [AV.agg [Aa b,Aa c],AV.agg [Aa d,Aa e]] fun g=>
Af g fun f=>
Bd pg KK.gl ((1,some ⟨[Aa d,Aa e],42⟩)::(0,some ⟨[Aa b,Aa c],42⟩)::[]) 61 [Aa f] fun h=>
Af h fun a=>
bif (decide ((IntKind.wrap .i64 (a*a))<f)) then (
A2 R ((1,some ⟨[Aa d,Aa e],42⟩)::(0,some ⟨[Aa b,Aa c],42⟩)::[]) [some (Aa a),some (Aa (IntKind.wrap .i64 (a+(1))))]) else (
A2 R ((1,some ⟨[Aa d,Aa e],42⟩)::(0,some ⟨[Aa b,Aa c],42⟩)::[]) [some (Aa a),some (Aa a)])
theorem pH (a b c d:Int) (R:AV→Mem→Prop) (h:F43 a b c d R):Own pg KK.gl 43 [AV.agg [Aa a,Aa b],AV.agg [Aa c,Aa d]] R:=Bk Ee Tryz.func43 (code:=c43) Bi Bi Bi (X:=F43 a b c d R) Bi h
noncomputable def c83:Code:=((Tryz.f83).body).getD .skip
noncomputable def q83 (R:AV→Mem→Prop):Bh→St→Prop:=C8 pg Tryz.f83 R
noncomputable def F83 (m c d a e f n g h b i j k l:Int) (R:AV→Mem→Prop):Prop:=
Bd pg KK.gl ((2,some ⟨[Aa k,Aa l],24⟩)::(1,some ⟨[Aa n,Aa g,Aa h,Aa b,Aa i,Aa j],47⟩)::(0,some ⟨[Aa m,Aa c,Aa d,Aa a,Aa e,Aa f],47⟩)::[]) 43 [AV.agg [Aa c,Aa d],AV.agg [Aa g,Aa h]] fun o=>
Fs o fun p q=>
Af p fun r=>
Af q fun u=>
bif (decide ((IntKind.wrap .i64 ((IntKind.wrap .i64 (r-e))-i))≥k)) then (
A2 R ((2,some ⟨[Aa k,Aa l],24⟩)::(1,some ⟨[Aa n,Aa g,Aa h,Aa b,Aa i,Aa j],47⟩)::(0,some ⟨[Aa m,Aa c,Aa d,Aa a,Aa e,Aa f],47⟩)::[]) [some (Ah true)]) else (
Bo (Cs pg (.call ⟨.builtin .max,#[.tmp 0,.tmp 1],#[3,3]⟩) 3 [Aa (IntKind.wrap .i64 (a-b)),Aa (IntKind.wrap .i64 (b-a))] (Am ((2,some ⟨[Aa k,Aa l],24⟩)::(1,some ⟨[Aa n,Aa g,Aa h,Aa b,Aa i,Aa j],47⟩)::(0,some ⟨[Aa m,Aa c,Aa d,Aa a,Aa e,Aa f],47⟩)::[])) 104) fun s=>
Af s fun t=>
A2 R ((2,some ⟨[Aa k,Aa l],24⟩)::(1,some ⟨[Aa n,Aa g,Aa h,Aa b,Aa i,Aa j],47⟩)::(0,some ⟨[Aa m,Aa c,Aa d,Aa a,Aa e,Aa f],47⟩)::[]) [some (Ah (decide ((IntKind.wrap .i64 ((IntKind.wrap .i64 (t-f))-j))≥l)))])
theorem oV (a b c d e f g i j k l m n o:Int) (R:AV→Mem→Prop) (h:F83 a b c d e f g i j k l m n o R):Own pg KK.gl 83 [AV.agg [Aa a,Aa b,Aa c,Aa d,Aa e,Aa f],AV.agg [Aa g,Aa i,Aa j,Aa k,Aa l,Aa m],AV.agg [Aa n,Aa o]] R:=Bk Ee Tryz.func83 (code:=c83) Bi Bi Bi (X:=F83 a b c d e f g i j k l m n o R) Bi h
noncomputable def c70:Code:=((Tryz.f70).body).getD .skip
noncomputable def q70 (R:AV→Mem→Prop):Bh→St→Prop:=C8 pg Tryz.f70 R
noncomputable def bU:Code:=Ey c70 0
noncomputable def cP (R:AV→Mem→Prop):Bh→St→Prop:=Ew pg KK 73 0 c70 0 (q70 R)
noncomputable def Ab8 (R:AV→Mem→Prop) (N0:St→Prop):Bh→St→Prop:=Ex N0 (cP R)
def Tp (a b c d:AV) (e f g h:Int) (m:Mem):St:=⟨[(0,a),(1,b),(5,(AV.ptr 0 0)),(6,c),(7,d),(9,(Aa e)),(10,(Aa f))],((0,some ⟨[Aa g,Aa h],24⟩)::m),100000⟩
noncomputable def bL (v w z p:AV) (u a s t:Int) (m:Mem) (R:AV→Mem→Prop) (N0:St→Prop):Prop:=
bif (decide (a≤u)) then (
Bd pg KK.gl ((0,some ⟨[Aa s,Aa t],24⟩)::m) 21 [v,Aa a] fun v5=>
Fs v5 fun c6 c7=>
Ji c6 fun c8 c9 K5 an ao ap=>
Af c8 fun b=>
Af c9 fun c=>
Af K5 fun d=>
Af an fun e=>
Af ao fun f=>
Af ap fun g=>
Af c7 fun q=>
Bd pg KK.gl ((100072,some ⟨[Aa b,Aa c,Aa d,Aa e,Aa f,Aa g],47⟩)::(100072,some ⟨[Aa (0),Aa (0),Aa (0),Aa (0),Aa (0),Aa (0)],47⟩)::(0,some ⟨[Aa s,Aa t],24⟩)::m) 21 [w,Aa a] fun aq=>
Fs aq fun Z1 Zn=>
Ji Z1 fun ar Pn Si S6 Qh c29=>
Af ar fun h=>
Af Pn fun i=>
Af Si fun j=>
Af S6 fun k=>
Af Qh fun l=>
Af c29 fun n=>
Af Zn fun r=>
Bd pg KK.gl ((100144,some ⟨[Aa h,Aa i,Aa j,Aa k,Aa l,Aa n],47⟩)::(100144,some ⟨[Aa (0),Aa (0),Aa (0),Aa (0),Aa (0),Aa (0)],47⟩)::(100072,some ⟨[Aa b,Aa c,Aa d,Aa e,Aa f,Aa g],47⟩)::(100072,some ⟨[Aa (0),Aa (0),Aa (0),Aa (0),Aa (0),Aa (0)],47⟩)::(0,some ⟨[Aa s,Aa t],24⟩)::m) 83 [AV.agg [Aa b,Aa c,Aa d,Aa e,Aa f,Aa g],AV.agg [Aa h,Aa i,Aa j,Aa k,Aa l,Aa n],AV.agg [Aa s,Aa t]] fun au=>
Hr au fun y=>
bif y then (
N0 ⟨[(0,v),(1,w),(5,(AV.ptr 0 0)),(6,z),(7,p),(9,(Aa u)),(10,(Aa (IntKind.wrap .i64 (a+(1))))),(23,(Aa a)),(24,(Aa u)),(25,(Ah (decide (a≤u)))),(29,v),(30,(Aa a)),(31,(AV.B4 [AV.agg [Aa b,Aa c,Aa d,Aa e,Aa f,Aa g],Aa q])),(28,(AV.B4 [AV.agg [Aa b,Aa c,Aa d,Aa e,Aa f,Aa g],Aa q])),(32,(AV.agg [Aa b,Aa c,Aa d,Aa e,Aa f,Aa g])),(33,(Aa q)),(11,(AV.ptr 100072 0)),(12,(Aa q)),(35,w),(36,(Aa a)),(37,(AV.B4 [AV.agg [Aa h,Aa i,Aa j,Aa k,Aa l,Aa n],Aa r])),(34,(AV.B4 [AV.agg [Aa h,Aa i,Aa j,Aa k,Aa l,Aa n],Aa r])),(38,(AV.agg [Aa h,Aa i,Aa j,Aa k,Aa l,Aa n])),(39,(Aa r)),(13,(AV.ptr 100144 0)),(14,(Aa r)),(40,(AV.agg [Aa b,Aa c,Aa d,Aa e,Aa f,Aa g])),(41,(AV.agg [Aa h,Aa i,Aa j,Aa k,Aa l,Aa n])),(42,(AV.agg [Aa s,Aa t])),(43,(Ah y)),(26,(Aa a)),(27,(Aa (IntKind.wrap .i64 (a+(1)))))],((100144,some ⟨[Aa h,Aa i,Aa j,Aa k,Aa l,Aa n],47⟩)::(100144,some ⟨[Aa (0),Aa (0),Aa (0),Aa (0),Aa (0),Aa (0)],47⟩)::(100072,some ⟨[Aa b,Aa c,Aa d,Aa e,Aa f,Aa g],47⟩)::(100072,some ⟨[Aa (0),Aa (0),Aa (0),Aa (0),Aa (0),Aa (0)],47⟩)::(0,some ⟨[Aa s,Aa t],24⟩)::m),100217⟩) else (
Bo (Ed p) fun av=>
Af av fun o=>
bif (decide (o>(0))) then (
Bo (Eb 2 p (Aa (IntKind.wrap .i64 (o-(1))))) fun aa=>
Bo (E1 1 aa) fun ab=>
Bo (Fm (Am ((100144,some ⟨[Aa h,Aa i,Aa j,Aa k,Aa l,Aa n],47⟩)::(100144,some ⟨[Aa (0),Aa (0),Aa (0),Aa (0),Aa (0),Aa (0)],47⟩)::(100072,some ⟨[Aa b,Aa c,Aa d,Aa e,Aa f,Aa g],47⟩)::(100072,some ⟨[Aa (0),Aa (0),Aa (0),Aa (0),Aa (0),Aa (0)],47⟩)::(0,some ⟨[Aa s,Aa t],24⟩)::m)) ab) fun aw=>
Af aw fun x=>
bif (x==a) then (
Bo (Eb 2 p (Aa (IntKind.wrap .i64 (o-(1))))) fun ad=>
Bo (E1 1 ad) fun ae=>
Cw pg (Am ((100144,some ⟨[Aa h,Aa i,Aa j,Aa k,Aa l,Aa n],47⟩)::(100144,some ⟨[Aa (0),Aa (0),Aa (0),Aa (0),Aa (0),Aa (0)],47⟩)::(100072,some ⟨[Aa b,Aa c,Aa d,Aa e,Aa f,Aa g],47⟩)::(100072,some ⟨[Aa (0),Aa (0),Aa (0),Aa (0),Aa (0),Aa (0)],47⟩)::(0,some ⟨[Aa s,Aa t],24⟩)::m)) 3 ae (Aa (IntKind.wrap .i64 (a+(1)))) fun az d47=>
N0 ⟨[(0,v),(1,w),(5,(AV.ptr 0 0)),(6,z),(7,p),(9,(Aa u)),(10,(Aa (IntKind.wrap .i64 (a+(1))))),(23,(Aa a)),(24,(Aa u)),(25,(Ah (decide (a≤u)))),(29,v),(30,(Aa a)),(31,(AV.B4 [AV.agg [Aa b,Aa c,Aa d,Aa e,Aa f,Aa g],Aa q])),(28,(AV.B4 [AV.agg [Aa b,Aa c,Aa d,Aa e,Aa f,Aa g],Aa q])),(32,(AV.agg [Aa b,Aa c,Aa d,Aa e,Aa f,Aa g])),(33,(Aa q)),(11,(AV.ptr 100072 0)),(12,(Aa q)),(35,w),(36,(Aa a)),(37,(AV.B4 [AV.agg [Aa h,Aa i,Aa j,Aa k,Aa l,Aa n],Aa r])),(34,(AV.B4 [AV.agg [Aa h,Aa i,Aa j,Aa k,Aa l,Aa n],Aa r])),(38,(AV.agg [Aa h,Aa i,Aa j,Aa k,Aa l,Aa n])),(39,(Aa r)),(13,(AV.ptr 100144 0)),(14,(Aa r)),(40,(AV.agg [Aa b,Aa c,Aa d,Aa e,Aa f,Aa g])),(41,(AV.agg [Aa h,Aa i,Aa j,Aa k,Aa l,Aa n])),(42,(AV.agg [Aa s,Aa t])),(43,(Ah y)),(44,p),(45,(Aa o)),(15,(Aa o)),(46,(Aa o)),(47,(Ah (decide (o>(0))))),(48,(Ah true)),(49,p),(50,(Aa o)),(51,(Aa (IntKind.wrap .i64 (o-(1))))),(52,aa),(53,ab),(54,(Aa x)),(55,(Aa a)),(56,(Ah (x==a))),(57,(Ah (x==a))),(58,p),(59,(Aa o)),(60,(Aa (IntKind.wrap .i64 (o-(1))))),(61,(Aa a)),(62,(Aa (IntKind.wrap .i64 (a+(1))))),(63,ad),(64,ae),(26,(Aa a)),(27,(Aa (IntKind.wrap .i64 (a+(1)))))],Ag ((100144,some ⟨[Aa h,Aa i,Aa j,Aa k,Aa l,Aa n],47⟩)::(100144,some ⟨[Aa (0),Aa (0),Aa (0),Aa (0),Aa (0),Aa (0)],47⟩)::(100072,some ⟨[Aa b,Aa c,Aa d,Aa e,Aa f,Aa g],47⟩)::(100072,some ⟨[Aa (0),Aa (0),Aa (0),Aa (0),Aa (0),Aa (0)],47⟩)::(0,some ⟨[Aa s,Aa t],24⟩)::m) d47,100240⟩) else (
Bo (N8 [Aa (0),Aa (0)] [(0,1),(1,1)] [(0,(Aa a)),(1,(Aa (IntKind.wrap .i64 (a+(1)))))]) fun af=>
Il (Vu 100234 95 2 1 [Aa (0),Aa (0)] [(0,af)]) ((100144,some ⟨[Aa h,Aa i,Aa j,Aa k,Aa l,Aa n],47⟩)::(100144,some ⟨[Aa (0),Aa (0),Aa (0),Aa (0),Aa (0),Aa (0)],47⟩)::(100072,some ⟨[Aa b,Aa c,Aa d,Aa e,Aa f,Aa g],47⟩)::(100072,some ⟨[Aa (0),Aa (0),Aa (0),Aa (0),Aa (0),Aa (0)],47⟩)::(0,some ⟨[Aa s,Aa t],24⟩)::m) fun ag ah=>
Il (app (Am ah) 95 2 16 [Aa (0),Aa (0)] 100235 p ag) ah fun ai ax=>
N0 ⟨[(0,v),(1,w),(5,(AV.ptr 0 0)),(6,z),(7,ai),(9,(Aa u)),(10,(Aa (IntKind.wrap .i64 (a+(1))))),(23,(Aa a)),(24,(Aa u)),(25,(Ah (decide (a≤u)))),(29,v),(30,(Aa a)),(31,(AV.B4 [AV.agg [Aa b,Aa c,Aa d,Aa e,Aa f,Aa g],Aa q])),(28,(AV.B4 [AV.agg [Aa b,Aa c,Aa d,Aa e,Aa f,Aa g],Aa q])),(32,(AV.agg [Aa b,Aa c,Aa d,Aa e,Aa f,Aa g])),(33,(Aa q)),(11,(AV.ptr 100072 0)),(12,(Aa q)),(35,w),(36,(Aa a)),(37,(AV.B4 [AV.agg [Aa h,Aa i,Aa j,Aa k,Aa l,Aa n],Aa r])),(34,(AV.B4 [AV.agg [Aa h,Aa i,Aa j,Aa k,Aa l,Aa n],Aa r])),(38,(AV.agg [Aa h,Aa i,Aa j,Aa k,Aa l,Aa n])),(39,(Aa r)),(13,(AV.ptr 100144 0)),(14,(Aa r)),(40,(AV.agg [Aa b,Aa c,Aa d,Aa e,Aa f,Aa g])),(41,(AV.agg [Aa h,Aa i,Aa j,Aa k,Aa l,Aa n])),(42,(AV.agg [Aa s,Aa t])),(43,(Ah y)),(44,p),(45,(Aa o)),(15,(Aa o)),(46,(Aa o)),(47,(Ah (decide (o>(0))))),(48,(Ah true)),(49,p),(50,(Aa o)),(51,(Aa (IntKind.wrap .i64 (o-(1))))),(52,aa),(53,ab),(54,(Aa x)),(55,(Aa a)),(56,(Ah (x==a))),(57,(Ah (x==a))),(65,p),(66,(Aa a)),(67,(Aa a)),(68,(Aa (IntKind.wrap .i64 (a+(1))))),(69,af),(70,ag),(71,ai),(26,(Aa a)),(27,(Aa (IntKind.wrap .i64 (a+(1)))))],ax,100240⟩)) else (
Bo (N8 [Aa (0),Aa (0)] [(0,1),(1,1)] [(0,(Aa a)),(1,(Aa (IntKind.wrap .i64 (a+(1)))))]) fun aj=>
Il (Vu 100226 95 2 1 [Aa (0),Aa (0)] [(0,aj)]) ((100144,some ⟨[Aa h,Aa i,Aa j,Aa k,Aa l,Aa n],47⟩)::(100144,some ⟨[Aa (0),Aa (0),Aa (0),Aa (0),Aa (0),Aa (0)],47⟩)::(100072,some ⟨[Aa b,Aa c,Aa d,Aa e,Aa f,Aa g],47⟩)::(100072,some ⟨[Aa (0),Aa (0),Aa (0),Aa (0),Aa (0),Aa (0)],47⟩)::(0,some ⟨[Aa s,Aa t],24⟩)::m) fun ak al=>
Il (app (Am al) 95 2 16 [Aa (0),Aa (0)] 100227 p ak) al fun am ay=>
N0 ⟨[(0,v),(1,w),(5,(AV.ptr 0 0)),(6,z),(7,am),(9,(Aa u)),(10,(Aa (IntKind.wrap .i64 (a+(1))))),(23,(Aa a)),(24,(Aa u)),(25,(Ah (decide (a≤u)))),(29,v),(30,(Aa a)),(31,(AV.B4 [AV.agg [Aa b,Aa c,Aa d,Aa e,Aa f,Aa g],Aa q])),(28,(AV.B4 [AV.agg [Aa b,Aa c,Aa d,Aa e,Aa f,Aa g],Aa q])),(32,(AV.agg [Aa b,Aa c,Aa d,Aa e,Aa f,Aa g])),(33,(Aa q)),(11,(AV.ptr 100072 0)),(12,(Aa q)),(35,w),(36,(Aa a)),(37,(AV.B4 [AV.agg [Aa h,Aa i,Aa j,Aa k,Aa l,Aa n],Aa r])),(34,(AV.B4 [AV.agg [Aa h,Aa i,Aa j,Aa k,Aa l,Aa n],Aa r])),(38,(AV.agg [Aa h,Aa i,Aa j,Aa k,Aa l,Aa n])),(39,(Aa r)),(13,(AV.ptr 100144 0)),(14,(Aa r)),(40,(AV.agg [Aa b,Aa c,Aa d,Aa e,Aa f,Aa g])),(41,(AV.agg [Aa h,Aa i,Aa j,Aa k,Aa l,Aa n])),(42,(AV.agg [Aa s,Aa t])),(43,(Ah y)),(44,p),(45,(Aa o)),(15,(Aa o)),(46,(Aa o)),(47,(Ah (decide (o>(0))))),(48,(Ah false)),(49,(AV.B4 [])),(50,(AV.B4 [])),(51,(AV.B4 [])),(52,(AV.B4 [])),(53,(AV.B4 [])),(54,(AV.B4 [])),(55,(AV.B4 [])),(56,(AV.B4 [])),(57,(Ah false)),(65,p),(66,(Aa a)),(67,(Aa a)),(68,(Aa (IntKind.wrap .i64 (a+(1))))),(69,aj),(70,ak),(71,am),(26,(Aa a)),(27,(Aa (IntKind.wrap .i64 (a+(1)))))],ay,100232⟩))) else (
A2 R ((0,some ⟨[Aa s,Aa t],24⟩)::m) [some p])
theorem jD (a b c d:AV) (e f g h:Int) (m:Mem) (R:AV→Mem→Prop) (N0:St→Prop):W pg KK 73 0 bU (Tp a b c d e f g h m) (Ab8 R N0)=bL a b c d e f g h m R N0:=by kernel_rfl
theorem Aey (R:AV→Mem→Prop) {σ:Type} (I:σ→Prop) (a b c d:σ→AV) (e f g h:σ→Int) (m:σ→Mem) (μ:σ→Nat) (step:∀x,I x→bL (a x) (b x) (c x) (d x) (e x) (f x) (g x) (h x) (m x) R (fun s'=>∃y,I y∧μ y<μ x∧Cl KK 73 0 s' (Tp (a y) (b y) (c y) (d y) (e y) (f y) (g y) (h y) (m y)))) (x:σ) (hx:I x) {s:St} (hw:Cl KK 73 0 s (Tp (a x) (b x) (c x) (d x) (e x) (f x) (g x) (h x) (m x))):C6 pg KK 73 0 (.loop bU) s (cP R):=
 C6.He hw (C6.loops Ee I (fun x=>Tp (a x) (b x) (c x) (d x) (e x) (f x) (g x) (h x) (m x)) μ (fun x hx=>(jD (a x) (b x) (c x) (d x) (e x) (f x) (g x) (h x) (m x) R _).mpr (step x hx)) x hx)
noncomputable def F70 (c d:AV) (e f:Int) (R:AV→Mem→Prop):Prop:=
Bd pg KK.gl ((0,some ⟨[Aa e,Aa f],24⟩)::[]) 82 [c,d] fun g=>
Fs g fun h i=>
Af h fun a=>
Af i fun b=>
C6 pg KK 73 0 (.loop bU) ⟨[(0,c),(1,d),(2,(AV.agg [Aa e,Aa f])),(5,(AV.ptr 0 0)),(6,AV.B1),(7,AV.B1),(17,c),(18,d),(19,(AV.B4 [Aa a,Aa b])),(16,(AV.B4 [Aa a,Aa b])),(20,(Aa a)),(21,(Aa b)),(8,(Aa a)),(9,(Aa b)),(22,(Aa a)),(10,(Aa a))],((0,some ⟨[Aa e,Aa f],24⟩)::[]),76⟩ (cP R)
theorem rH (a b:AV) (c d:Int) (R:AV→Mem→Prop) (h:F70 a b c d R):Own pg KK.gl 70 [a,b,AV.agg [Aa c,Aa d]] R:=Bk Ee Tryz.func70 (code:=c70) Bi Bi Bi (X:=F70 a b c d R) Bi h
noncomputable def c49:Code:=((Tryz.f49).body).getD .skip
noncomputable def q49 (R:AV→Mem→Prop):Bh→St→Prop:=C8 pg Tryz.f49 R
noncomputable def F49 (b c:AV) (d e:Int) (R:AV→Mem→Prop):Prop:=
Il (Vu 6 32 1 2 [AV.B1] [(0,b),(1,c)]) ((0,some ⟨[Aa d,Aa e],24⟩)::[]) fun g a=>
Bd pg KK.gl a 69 [AV.agg [Aa d,Aa e],g] fun h=>
Af h fun f=>
bif (f !=(0)) then (
A2 R a [some AV.B1,some (Aa f)]) else (
Bo (Iv (Am a) 2 (AV.ptr 0 0)) fun i=>
I3 i fun j c5=>
Af j fun k=>
Af c5 fun l=>
Bd pg KK.gl a 70 [b,c,AV.agg [Aa k,Aa l]] fun m=>
A2 R a [some m,some (Aa (0))])
theorem tB (a b:AV) (c d:Int) (R:AV→Mem→Prop) (h:F49 a b c d R):Own pg KK.gl 49 [a,b,AV.agg [Aa c,Aa d]] R:=Bk Ee Tryz.func49 (code:=c49) Bi Bi Bi (X:=F49 a b c d R) Bi h
noncomputable def yH:Code:=((Tryz.f34).body).getD .skip
noncomputable def q34 (R:AV→Mem→Prop):Bh→St→Prop:=C8 pg Tryz.f34 R
noncomputable def F34 (e f:AV) (a b:Int) (R:AV→Mem→Prop):Prop:=
Bd pg KK.gl ((0,some ⟨[Aa a,Aa b],24⟩)::[]) 49 [e,f,AV.agg [Aa a,Aa b]] fun g=>
Fs g fun c h=>
Af h fun d=>
bif (d !=(0)) then (
A2 R ((0,some ⟨[Aa a,Aa b],24⟩)::[]) [some (Aa (0)),some (Aa d)]) else (
Bo (Ed c) fun i=>
Af i fun j=>
bif (j==(0)) then (
A2 R ((0,some ⟨[Aa a,Aa b],24⟩)::[]) [some (Aa (0)),some (Aa (8))]) else (
Bo (Eb 2 c (Aa (0))) fun k=>
Bo (E1 0 k) fun l=>
Bo (Fm (Am ((0,some ⟨[Aa a,Aa b],24⟩)::[])) l) fun m=>
Af m fun n=>
A2 R ((0,some ⟨[Aa a,Aa b],24⟩)::[]) [some (Aa n),some (Aa (0))]))
theorem tC (a b:AV) (c d:Int) (R:AV→Mem→Prop) (h:F34 a b c d R):Own pg KK.gl 34 [a,b,AV.agg [Aa c,Aa d]] R:=Bk Ee Tryz.func34 (code:=yH) Bi Bi Bi (X:=F34 a b c d R) Bi h
noncomputable def Pn:Code:=((Tryz.f25).body).getD .skip
noncomputable def q25 (R:AV→Mem→Prop):Bh→St→Prop:=C8 pg Tryz.f25 R
noncomputable def F25 (a:Int) (R:AV→Mem→Prop):Prop:=
A2 R [] [some (Aa (Int.tmod (IntKind.wrap .i64 ((Int.tmod a (4096))+(4096))) (4096)))]
theorem tN (a:Int) (R:AV→Mem→Prop) (h:F25 a R):Own pg KK.gl 25 [Aa a] R:=Bk Ee Tryz.func25 (code:=Pn) Bi Bi Bi (X:=F25 a R) Bi h
noncomputable def W3:Code:=((Tryz.f84).body).getD .skip
noncomputable def q84 (R:AV→Mem→Prop):Bh→St→Prop:=C8 pg Tryz.f84 R
noncomputable def F84 (a:Nat) (R:AV→Mem→Prop):Prop:=
Xz pg .neq 104 4 a a 3 fun b=>
A2 R [] [some (Ah b)]
theorem vX (a:Nat) (R:AV→Mem→Prop) (h:F84 a R):Own pg KK.gl 84 [AV.sc (.float .f64 a)] R:=Bk Ee Tryz.func84 (code:=W3) Bi Bi Bi (X:=F84 a R) Bi h
noncomputable def c94:Code:=((Tryz.f94).body).getD .skip
noncomputable def q94 (R:AV→Mem→Prop):Bh→St→Prop:=C8 pg Tryz.f94 R
noncomputable def F94 (a:Nat) (R:AV→Mem→Prop):Prop:=
Bd pg KK.gl [] 97 [AV.sc (.float .f64 a)] fun b=>
D7 b fun c=>
Bo (Cs pg (.binOp .andNot 133 (.tmp 0) (.tmp 1) 133) 133 [AV.sc (.int .u64 c),AV.sc (.int .u64 (9223372036854775808))] (Am []) 66) fun d=>
D7 d fun e=>
Bd pg KK.gl [] 96 [AV.sc (.int .u64 e)] fun f=>
Gv f fun g=>
A2 R [] [some (AV.sc (.float .f64 g))]
theorem rL (a:Nat) (R:AV→Mem→Prop) (h:F94 a R):Own pg KK.gl 94 [AV.sc (.float .f64 a)] R:=Bk Ee Tryz.func94 (code:=c94) Bi Bi Bi (X:=F94 a R) Bi h
noncomputable def c85:Code:=((Tryz.f85).body).getD .skip
noncomputable def q85 (R:AV→Mem→Prop):Bh→St→Prop:=C8 pg Tryz.f85 R
noncomputable def F85 (a:Nat) (b:Int) (R:AV→Mem→Prop):Prop:=
bif (b==(0)) then (
Bd pg KK.gl [] 94 [AV.sc (.float .f64 a)] fun c=>
Gv c fun d=>
Xz pg .gtr 104 4 d 9218868437227405311 70 fun e=>
A2 R [] [some (Ah e)]) else (
bif (decide (b<(0))) then (
Sq pg 104 a 6 fun f=>
Xz pg .gtr 104 4 f 9218868437227405311 9 fun g=>
A2 R [] [some (Ah g)]) else (
Xz pg .gtr 104 4 a 9218868437227405311 6 fun h=>
A2 R [] [some (Ah h)]))
theorem vK (a:Nat) (b:Int) (R:AV→Mem→Prop) (h:F85 a b R):Own pg KK.gl 85 [AV.sc (.float .f64 a),Aa b] R:=Bk Ee Tryz.func85 (code:=c85) Bi Bi Bi (X:=F85 a b R) Bi h
noncomputable def c87:Code:=((Tryz.f87).body).getD .skip
noncomputable def q87 (R:AV→Mem→Prop):Bh→St→Prop:=C8 pg Tryz.f87 R
noncomputable def F87 (R:AV→Mem→Prop):Prop:=
Bd pg KK.gl [] 96 [AV.sc (.int .u64 (9221120237041090561))] fun a=>
Gv a fun b=>
A2 R [] [some (AV.sc (.float .f64 b))]
theorem qX (R:AV→Mem→Prop) (h:F87 R):Own pg KK.gl 87 [] R:=Bk Ee Tryz.func87 (code:=c87) Bi Bi Bi (X:=F87 R) Bi h
end Go.Proofs.YtmhnnmfcjdnlhaaGreatDoor
