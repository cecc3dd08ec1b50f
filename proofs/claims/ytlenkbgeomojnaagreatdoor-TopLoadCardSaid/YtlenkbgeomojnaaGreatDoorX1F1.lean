/- Functions of the program as conditions on their answers; printed by wip/Gen.lean.txt. -/
import Derived.Test.YtlenkbgeomojnaaGreatDoorX1T
set_option linter.unusedVariables false
set_option maxRecDepth 100000
set_option maxHeartbeats 4000000
namespace Go.Proofs.YtlenkbgeomojnaaGreatDoor
/- skyway/probe.CheckSep -/
noncomputable def c168:Code:=((Tryz.f168).body).getD .skip
noncomputable def q168 (R:AV→Mem→Prop):AExit→St→Prop:=retQ pg Tryz.f168 R
noncomputable def F168 (a b:Int) (R:AV→Mem→Prop):Prop:=
bif (decide (a<(0))) then (
retL R ((0,some ⟨[intA a,intA b],78⟩)::[]) [some (intA (4))]) else (
bif (decide (a>(1000000))) then (
retL R ((0,some ⟨[intA a,intA b],78⟩)::[]) [some (intA (4))]) else (
bif (decide (b<(0))) then (
retL R ((0,some ⟨[intA a,intA b],78⟩)::[]) [some (intA (4))]) else (
bif (decide (b>(60000))) then (
retL R ((0,some ⟨[intA a,intA b],78⟩)::[]) [some (intA (4))]) else (
retL R ((0,some ⟨[intA a,intA b],78⟩)::[]) [some (intA (0))]))))
theorem F168_own (a b:Int) (R:AV→Mem→Prop) (h:F168 a b R):Own pg KK.gl 168 [AV.agg [intA a,intA b]] R:=own_of_F fol Tryz.func168 (code:=c168) krE krE krE (X:=F168 a b R) krE h
/- skyway/plane.Check -/
noncomputable def c70:Code:=((Tryz.f70).body).getD .skip
noncomputable def q70 (R:AV→Mem→Prop):AExit→St→Prop:=retQ pg Tryz.f70 R
noncomputable def F70 (a b:Int) (R:AV→Mem→Prop):Prop:=
bif (decide (a<(-1000000))) then (
retL R ((0,some ⟨[intA a,intA b],38⟩)::[]) [some (intA (4))]) else (
bif (decide (a>(1000000))) then (
retL R ((0,some ⟨[intA a,intA b],38⟩)::[]) [some (intA (4))]) else (
bif (decide (b<(-1000000))) then (
retL R ((0,some ⟨[intA a,intA b],38⟩)::[]) [some (intA (4))]) else (
bif (decide (b>(1000000))) then (
retL R ((0,some ⟨[intA a,intA b],38⟩)::[]) [some (intA (4))]) else (
retL R ((0,some ⟨[intA a,intA b],38⟩)::[]) [some (intA (0))]))))
theorem F70_own (a b:Int) (R:AV→Mem→Prop) (h:F70 a b R):Own pg KK.gl 70 [AV.agg [intA a,intA b]] R:=own_of_F fol Tryz.func70 (code:=c70) krE krE krE (X:=F70 a b R) krE h
/- skyway/tube.Check -/
noncomputable def c36:Code:=((Tryz.f36).body).getD .skip
noncomputable def q36 (R:AV→Mem→Prop):AExit→St→Prop:=retQ pg Tryz.f36 R
noncomputable def c36_0:Code:=loopB c36 0
noncomputable def q36_0 (R:AV→Mem→Prop):AExit→St→Prop:=contW pg KK 86 0 c36 0 (q36 R)
noncomputable def qq36_0 (R:AV→Mem→Prop) (N0:St→Prop):AExit→St→Prop:=thenQ N0 (q36_0 R)
def h36_0 (a:AV) (b:Int) (c:AV) (d e:Int) (m:Mem):St:=⟨[(0,a),(2,(intA b)),(14,c),(15,(intA d)),(16,(intA e))],m,100000⟩
noncomputable def B36_0 (l:AV) (p:Int) (n:AV) (j g:Int) (m:Mem) (R:AV→Mem→Prop) (N0:St→Prop):Prop:=
bif (decide (g<j)) then (
opP (idxS 6 n (intA g)) fun o=>
opP (ldA (mget m) 6 o) fun t=>
exA6 t fun c8 c9 u v w x=>
ex_i64 c8 fun a=>
ex_i64 c9 fun e=>
ex_i64 u fun f=>
ex_i64 v fun d=>
ex_i64 w fun b=>
ex_i64 x fun c=>
bif (decide (a<(0))) then (
retL R ((100004,some ⟨[intA a,intA e,intA f,intA d,intA b,intA c],129⟩)::(100004,some ⟨[intA (0),intA (0),intA (0),intA (0),intA (0),intA (0)],129⟩)::m) [some (intA (12))]) else (
bif (decide (a>(200000))) then (
retL R ((100004,some ⟨[intA a,intA e,intA f,intA d,intA b,intA c],129⟩)::(100004,some ⟨[intA (0),intA (0),intA (0),intA (0),intA (0),intA (0)],129⟩)::m) [some (intA (12))]) else (
bif (decide (g>(0))) then (
opP (idxS 6 l (intA (IntKind.wrap .i64 (g-(1))))) fun q=>
opP (fldO 0 q) fun r=>
opP (fldO 0 r) fun s=>
opP (ldS (mget ((100004,some ⟨[intA a,intA e,intA f,intA d,intA b,intA c],129⟩)::(100004,some ⟨[intA (0),intA (0),intA (0),intA (0),intA (0),intA (0)],129⟩)::m)) s) fun y=>
ex_i64 y fun k=>
bif (decide (a≤k)) then (
retL R ((100004,some ⟨[intA a,intA e,intA f,intA d,intA b,intA c],129⟩)::(100004,some ⟨[intA (0),intA (0),intA (0),intA (0),intA (0),intA (0)],129⟩)::m) [some (intA (12))]) else (
callQ pg KK.gl ((100004,some ⟨[intA a,intA e,intA f,intA d,intA b,intA c],129⟩)::(100004,some ⟨[intA (0),intA (0),intA (0),intA (0),intA (0),intA (0)],129⟩)::m) 70 [AV.agg [intA e,intA f]] fun z=>
ex_i64 z fun h=>
bif (h !=(0)) then (
retL R ((100004,some ⟨[intA a,intA e,intA f,intA d,intA b,intA c],129⟩)::(100004,some ⟨[intA (0),intA (0),intA (0),intA (0),intA (0),intA (0)],129⟩)::m) [some (intA h)]) else (
bif (decide (d<(0))) then (
retL R ((100004,some ⟨[intA a,intA e,intA f,intA d,intA b,intA c],129⟩)::(100004,some ⟨[intA (0),intA (0),intA (0),intA (0),intA (0),intA (0)],129⟩)::m) [some (intA (4))]) else (
bif (decide (d>(60000))) then (
retL R ((100004,some ⟨[intA a,intA e,intA f,intA d,intA b,intA c],129⟩)::(100004,some ⟨[intA (0),intA (0),intA (0),intA (0),intA (0),intA (0)],129⟩)::m) [some (intA (4))]) else (
bif (decide (b<(0))) then (
retL R ((100004,some ⟨[intA a,intA e,intA f,intA d,intA b,intA c],129⟩)::(100004,some ⟨[intA (0),intA (0),intA (0),intA (0),intA (0),intA (0)],129⟩)::m) [some (intA (4))]) else (
bif (decide (b>(1000000))) then (
retL R ((100004,some ⟨[intA a,intA e,intA f,intA d,intA b,intA c],129⟩)::(100004,some ⟨[intA (0),intA (0),intA (0),intA (0),intA (0),intA (0)],129⟩)::m) [some (intA (4))]) else (
bif (decide (c<(0))) then (
retL R ((100004,some ⟨[intA a,intA e,intA f,intA d,intA b,intA c],129⟩)::(100004,some ⟨[intA (0),intA (0),intA (0),intA (0),intA (0),intA (0)],129⟩)::m) [some (intA (4))]) else (
bif (decide (c>(60000))) then (
retL R ((100004,some ⟨[intA a,intA e,intA f,intA d,intA b,intA c],129⟩)::(100004,some ⟨[intA (0),intA (0),intA (0),intA (0),intA (0),intA (0)],129⟩)::m) [some (intA (4))]) else (
N0 ⟨[(0,l),(2,(intA p)),(14,n),(15,(intA j)),(16,(intA (IntKind.wrap .i64 (g+(1))))),(17,(boolA (decide (g<j)))),(18,(intA g)),(19,o),(20,(AV.agg [intA a,intA e,intA f,intA d,intA b,intA c])),(4,(AV.ptr 100004 0)),(3,(intA g)),(21,(AV.ptr 100004 0)),(22,(AV.ptr 100004 0)),(23,(intA a)),(24,(boolA (decide (a<(0))))),(25,(boolA false)),(26,(AV.ptr 100004 0)),(27,(AV.ptr 100004 0)),(28,(intA a)),(29,(boolA (decide (a>(200000))))),(30,(boolA (decide (a>(200000))))),(31,(boolA false)),(32,(intA g)),(33,(boolA (decide (g>(0))))),(34,(boolA true)),(35,(AV.ptr 100004 0)),(36,(AV.ptr 100004 0)),(37,(intA a)),(38,l),(39,(intA g)),(40,(intA (IntKind.wrap .i64 (g-(1))))),(41,q),(42,r),(43,s),(44,(intA k)),(45,(boolA (decide (a≤k)))),(46,(boolA (decide (a≤k)))),(47,(boolA (decide (a≤k)))),(48,(AV.ptr 100004 0)),(49,(AV.ptr 100004 1)),(50,(AV.agg [intA e,intA f])),(51,(intA h)),(5,(intA h)),(52,(intA h)),(53,(boolA (h !=(0)))),(55,(AV.ptr 100004 0)),(56,(AV.ptr 100004 3)),(57,(intA d)),(58,(boolA (decide (d<(0))))),(59,(boolA false)),(60,(AV.ptr 100004 0)),(61,(AV.ptr 100004 3)),(62,(intA d)),(63,(boolA (decide (d>(60000))))),(64,(boolA (decide (d>(60000))))),(65,(boolA false)),(66,(AV.ptr 100004 4)),(67,(intA b)),(68,(boolA (decide (b<(0))))),(69,(boolA (decide (b<(0))))),(70,(boolA false)),(71,(AV.ptr 100004 4)),(72,(intA b)),(73,(boolA (decide (b>(1000000))))),(74,(boolA (decide (b>(1000000))))),(75,(boolA false)),(76,(AV.ptr 100004 5)),(77,(intA c)),(78,(boolA (decide (c<(0))))),(79,(boolA (decide (c<(0))))),(80,(boolA false)),(81,(AV.ptr 100004 5)),(82,(intA c)),(83,(boolA (decide (c>(60000))))),(84,(boolA (decide (c>(60000))))),(85,(intA (IntKind.wrap .i64 (g+(1)))))],((100004,some ⟨[intA a,intA e,intA f,intA d,intA b,intA c],129⟩)::(100004,some ⟨[intA (0),intA (0),intA (0),intA (0),intA (0),intA (0)],129⟩)::m),100136⟩))))))))) else (
callQ pg KK.gl ((100004,some ⟨[intA a,intA e,intA f,intA d,intA b,intA c],129⟩)::(100004,some ⟨[intA (0),intA (0),intA (0),intA (0),intA (0),intA (0)],129⟩)::m) 70 [AV.agg [intA e,intA f]] fun aa=>
ex_i64 aa fun i=>
bif (i !=(0)) then (
retL R ((100004,some ⟨[intA a,intA e,intA f,intA d,intA b,intA c],129⟩)::(100004,some ⟨[intA (0),intA (0),intA (0),intA (0),intA (0),intA (0)],129⟩)::m) [some (intA i)]) else (
bif (decide (d<(0))) then (
retL R ((100004,some ⟨[intA a,intA e,intA f,intA d,intA b,intA c],129⟩)::(100004,some ⟨[intA (0),intA (0),intA (0),intA (0),intA (0),intA (0)],129⟩)::m) [some (intA (4))]) else (
bif (decide (d>(60000))) then (
retL R ((100004,some ⟨[intA a,intA e,intA f,intA d,intA b,intA c],129⟩)::(100004,some ⟨[intA (0),intA (0),intA (0),intA (0),intA (0),intA (0)],129⟩)::m) [some (intA (4))]) else (
bif (decide (b<(0))) then (
retL R ((100004,some ⟨[intA a,intA e,intA f,intA d,intA b,intA c],129⟩)::(100004,some ⟨[intA (0),intA (0),intA (0),intA (0),intA (0),intA (0)],129⟩)::m) [some (intA (4))]) else (
bif (decide (b>(1000000))) then (
retL R ((100004,some ⟨[intA a,intA e,intA f,intA d,intA b,intA c],129⟩)::(100004,some ⟨[intA (0),intA (0),intA (0),intA (0),intA (0),intA (0)],129⟩)::m) [some (intA (4))]) else (
bif (decide (c<(0))) then (
retL R ((100004,some ⟨[intA a,intA e,intA f,intA d,intA b,intA c],129⟩)::(100004,some ⟨[intA (0),intA (0),intA (0),intA (0),intA (0),intA (0)],129⟩)::m) [some (intA (4))]) else (
bif (decide (c>(60000))) then (
retL R ((100004,some ⟨[intA a,intA e,intA f,intA d,intA b,intA c],129⟩)::(100004,some ⟨[intA (0),intA (0),intA (0),intA (0),intA (0),intA (0)],129⟩)::m) [some (intA (4))]) else (
N0 ⟨[(0,l),(2,(intA p)),(14,n),(15,(intA j)),(16,(intA (IntKind.wrap .i64 (g+(1))))),(17,(boolA (decide (g<j)))),(18,(intA g)),(19,o),(20,(AV.agg [intA a,intA e,intA f,intA d,intA b,intA c])),(4,(AV.ptr 100004 0)),(3,(intA g)),(21,(AV.ptr 100004 0)),(22,(AV.ptr 100004 0)),(23,(intA a)),(24,(boolA (decide (a<(0))))),(25,(boolA false)),(26,(AV.ptr 100004 0)),(27,(AV.ptr 100004 0)),(28,(intA a)),(29,(boolA (decide (a>(200000))))),(30,(boolA (decide (a>(200000))))),(31,(boolA false)),(32,(intA g)),(33,(boolA (decide (g>(0))))),(34,(boolA false)),(35,(AV.tup [])),(36,(AV.tup [])),(37,(AV.tup [])),(38,(AV.tup [])),(39,(AV.tup [])),(40,(AV.tup [])),(41,(AV.tup [])),(42,(AV.tup [])),(43,(AV.tup [])),(44,(AV.tup [])),(45,(AV.tup [])),(46,(boolA false)),(47,(boolA false)),(48,(AV.ptr 100004 0)),(49,(AV.ptr 100004 1)),(50,(AV.agg [intA e,intA f])),(51,(intA i)),(5,(intA i)),(52,(intA i)),(53,(boolA (i !=(0)))),(55,(AV.ptr 100004 0)),(56,(AV.ptr 100004 3)),(57,(intA d)),(58,(boolA (decide (d<(0))))),(59,(boolA false)),(60,(AV.ptr 100004 0)),(61,(AV.ptr 100004 3)),(62,(intA d)),(63,(boolA (decide (d>(60000))))),(64,(boolA (decide (d>(60000))))),(65,(boolA false)),(66,(AV.ptr 100004 4)),(67,(intA b)),(68,(boolA (decide (b<(0))))),(69,(boolA (decide (b<(0))))),(70,(boolA false)),(71,(AV.ptr 100004 4)),(72,(intA b)),(73,(boolA (decide (b>(1000000))))),(74,(boolA (decide (b>(1000000))))),(75,(boolA false)),(76,(AV.ptr 100004 5)),(77,(intA c)),(78,(boolA (decide (c<(0))))),(79,(boolA (decide (c<(0))))),(80,(boolA false)),(81,(AV.ptr 100004 5)),(82,(intA c)),(83,(boolA (decide (c>(60000))))),(84,(boolA (decide (c>(60000))))),(85,(intA (IntKind.wrap .i64 (g+(1)))))],((100004,some ⟨[intA a,intA e,intA f,intA d,intA b,intA c],129⟩)::(100004,some ⟨[intA (0),intA (0),intA (0),intA (0),intA (0),intA (0)],129⟩)::m),100136⟩))))))))))) else (
retL R m [some (intA (0))])
theorem B36_0_eq (a:AV) (b:Int) (c:AV) (d e:Int) (m:Mem) (R:AV→Mem→Prop) (N0:St→Prop):W pg KK 86 0 c36_0 (h36_0 a b c d e m) (qq36_0 R N0)=B36_0 a b c d e m R N0:=by kernel_rfl
theorem L36_0 (R:AV→Mem→Prop) {σ:Type} (I:σ→Prop) (a:σ→AV) (b:σ→Int) (c:σ→AV) (d e:σ→Int) (m:σ→Mem) (μ:σ→Nat) (step:∀x,I x→B36_0 (a x) (b x) (c x) (d x) (e x) (m x) R (fun s'=>∃y,I y∧μ y<μ x∧Weak KK 86 0 s' (h36_0 (a y) (b y) (c y) (d y) (e y) (m y)))) (x:σ) (hx:I x) {s:St} (hw:Weak KK 86 0 s (h36_0 (a x) (b x) (c x) (d x) (e x) (m x))):Tri pg KK 86 0 (.loop c36_0) s (q36_0 R):=
 Tri.weak hw (Tri.loops fol I (fun x=>h36_0 (a x) (b x) (c x) (d x) (e x) (m x)) μ (fun x hx=>(B36_0_eq (a x) (b x) (c x) (d x) (e x) (m x) R _).mpr (step x hx)) x hx)
noncomputable def F36 (a:AV) (R:AV→Mem→Prop):Prop:=
opP (lenS a) fun d=>
ex_i64 d fun b=>
bif (decide (b>(64))) then (
retL R [] [some (intA (2))]) else (
opP (lenS a) fun e=>
ex_i64 e fun c=>
bif (c==(0)) then (
retL R [] [some (intA (3))]) else (
opP (lenS a) fun f=>
ex_i64 f fun g=>
Tri pg KK 86 0 (.loop c36_0) ⟨[(0,a),(2,(intA (0))),(7,a),(8,(intA b)),(9,(boolA (decide (b>(64))))),(6,(boolA (decide (b>(64))))),(11,a),(12,(intA c)),(13,(boolA (c==(0)))),(10,(boolA (c==(0)))),(14,a),(15,(intA g)),(16,(intA (0)))],[],12⟩ (q36_0 R)))
theorem F36_own (a:AV) (R:AV→Mem→Prop) (h:F36 a R):Own pg KK.gl 36 [a] R:=own_of_F fol Tryz.func36 (code:=c36) krE krE krE (X:=F36 a R) krE h
/- skyway/probe.check -/
noncomputable def c144:Code:=((Tryz.f144).body).getD .skip
noncomputable def q144 (R:AV→Mem→Prop):AExit→St→Prop:=retQ pg Tryz.f144 R
noncomputable def c144_0:Code:=loopB c144 0
noncomputable def q144_0 (R:AV→Mem→Prop):AExit→St→Prop:=contW pg KK 26 0 c144 0 (q144 R)
noncomputable def qq144_0 (R:AV→Mem→Prop) (N0:St→Prop):AExit→St→Prop:=thenQ N0 (q144_0 R)
def h144_0 (a:Int) (b:AV) (c d:Int) (m:Mem):St:=⟨[(4,(intA a)),(14,b),(15,(intA c)),(16,(intA d))],m,100000⟩
noncomputable def B144_0 (g:Int) (e:AV) (d b:Int) (m:Mem) (R:AV→Mem→Prop) (N0:St→Prop):Prop:=
bif (decide (b<d)) then (
opP (idxS 1 e (intA b)) fun f=>
opP (ldS (mget m) f) fun c=>
callQ pg KK.gl m 36 [c] fun h=>
ex_i64 h fun a=>
bif (a !=(0)) then (
retL R m [some (intA a)]) else (
N0 ⟨[(4,(intA g)),(14,e),(15,(intA d)),(16,(intA (IntKind.wrap .i64 (b+(1))))),(17,(boolA (decide (b<d)))),(18,f),(19,c),(7,c),(20,c),(21,(intA a)),(8,(intA a)),(22,(intA a)),(23,(boolA (a !=(0)))),(25,(intA (IntKind.wrap .i64 (b+(1)))))],m,100074⟩)) else (
retL R m [some (intA (0))])
theorem B144_0_eq (a:Int) (b:AV) (c d:Int) (m:Mem) (R:AV→Mem→Prop) (N0:St→Prop):W pg KK 26 0 c144_0 (h144_0 a b c d m) (qq144_0 R N0)=B144_0 a b c d m R N0:=by kernel_rfl
theorem L144_0 (R:AV→Mem→Prop) {σ:Type} (I:σ→Prop) (a:σ→Int) (b:σ→AV) (c d:σ→Int) (m:σ→Mem) (μ:σ→Nat) (step:∀x,I x→B144_0 (a x) (b x) (c x) (d x) (m x) R (fun s'=>∃y,I y∧μ y<μ x∧Weak KK 26 0 s' (h144_0 (a y) (b y) (c y) (d y) (m y)))) (x:σ) (hx:I x) {s:St} (hw:Weak KK 26 0 s (h144_0 (a x) (b x) (c x) (d x) (m x))):Tri pg KK 26 0 (.loop c144_0) s (q144_0 R):=
 Tri.weak hw (Tri.loops fol I (fun x=>h144_0 (a x) (b x) (c x) (d x) (m x)) μ (fun x hx=>(B144_0_eq (a x) (b x) (c x) (d x) (m x) R _).mpr (step x hx)) x hx)
noncomputable def F144 (a b:Int) (d:AV) (R:AV→Mem→Prop):Prop:=
callQ pg KK.gl ((0,some ⟨[intA a,intA b],78⟩)::[]) 168 [AV.agg [intA a,intA b]] fun e=>
ex_i64 e fun c=>
bif (c !=(0)) then (
retL R ((0,some ⟨[intA a,intA b],78⟩)::[]) [some (intA c)]) else (
opP (lenS d) fun f=>
ex_i64 f fun g=>
Tri pg KK 26 0 (.loop c144_0) ⟨[(0,(AV.agg [intA a,intA b])),(1,d),(2,(AV.ptr 0 0)),(4,(intA (0))),(9,(AV.agg [intA a,intA b])),(10,(intA c)),(5,(intA c)),(11,(intA c)),(12,(boolA (c !=(0)))),(14,d),(15,(intA g)),(16,(intA (0)))],((0,some ⟨[intA a,intA b],78⟩)::[]),73⟩ (q144_0 R))
theorem F144_own (a b:Int) (c:AV) (R:AV→Mem→Prop) (h:F144 a b c R):Own pg KK.gl 144 [AV.agg [intA a,intA b],c] R:=own_of_F fol Tryz.func144 (code:=c144) krE krE krE (X:=F144 a b c R) krE h
/- skyway/probe.common -/
noncomputable def c216:Code:=((Tryz.f216).body).getD .skip
noncomputable def q216 (R:AV→Mem→Prop):AExit→St→Prop:=retQ pg Tryz.f216 R
noncomputable def F216 (a b:AV) (R:AV→Mem→Prop):Prop:=
opP (idxS 6 a (intA (0))) fun c=>
opP (fldO 0 c) fun d=>
opP (fldO 0 d) fun e=>
opP (ldS (mget []) e) fun f=>
ex_i64 f fun g=>
opP (idxS 6 b (intA (0))) fun h=>
opP (fldO 0 h) fun i=>
opP (fldO 0 i) fun j=>
opP (ldS (mget []) j) fun k=>
ex_i64 k fun l=>
opP (opA pg (.call ⟨.builtin .max,#[.tmp 0,.tmp 1],#[3,3]⟩) 3 [intA g,intA l] (mget []) 12) fun m=>
ex_i64 m fun n=>
opP (lenS a) fun o=>
ex_i64 o fun p=>
opP (idxS 6 a (intA (IntKind.wrap .i64 (p-(1))))) fun q=>
opP (fldO 0 q) fun r=>
opP (fldO 0 r) fun s=>
opP (ldS (mget []) s) fun t=>
ex_i64 t fun u=>
opP (lenS b) fun v=>
ex_i64 v fun w=>
opP (idxS 6 b (intA (IntKind.wrap .i64 (w-(1))))) fun x=>
opP (fldO 0 x) fun y=>
opP (fldO 0 y) fun z=>
opP (ldS (mget []) z) fun aa=>
ex_i64 aa fun ab=>
opP (opA pg (.call ⟨.builtin .min,#[.tmp 0,.tmp 1],#[3,3]⟩) 3 [intA u,intA ab] (mget []) 29) fun ad=>
ex_i64 ad fun ae=>
retL R [] [some (intA n),some (intA ae)]
theorem F216_own (a b:AV) (R:AV→Mem→Prop) (h:F216 a b R):Own pg KK.gl 216 [a,b] R:=own_of_F fol Tryz.func216 (code:=c216) krE krE krE (X:=F216 a b R) krE h
/- skyway/tube.ends -/
noncomputable def c137:Code:=((Tryz.f137).body).getD .skip
noncomputable def q137 (R:AV→Mem→Prop):AExit→St→Prop:=retQ pg Tryz.f137 R
noncomputable def F137 (a:AV) (R:AV→Mem→Prop):Prop:=
opP (idxS 6 a (intA (0))) fun b=>
opP (fldO 0 b) fun c=>
opP (fldO 0 c) fun d=>
opP (ldS (mget []) d) fun e=>
ex_i64 e fun f=>
opP (lenS a) fun g=>
ex_i64 g fun h=>
opP (idxS 6 a (intA (IntKind.wrap .i64 (h-(1))))) fun i=>
opP (fldO 0 i) fun j=>
opP (fldO 0 j) fun k=>
opP (ldS (mget []) k) fun l=>
ex_i64 l fun m=>
retL R [] [some (intA f),some (intA m)]
theorem F137_own (a:AV) (R:AV→Mem→Prop) (h:F137 a R):Own pg KK.gl 137 [a] R:=own_of_F fol Tryz.func137 (code:=c137) krE krE krE (X:=F137 a R) krE h
/- skyway/tube.at$1 -/
noncomputable def c205:Code:=((Tryz.f205).body).getD .skip
noncomputable def q205 (R:AV→Mem→Prop):AExit→St→Prop:=retQ pg Tryz.f205 R
noncomputable def F205 (a b c d e f g:Int) (R:AV→Mem→Prop):Prop:=
retL R ((0,some ⟨[intA a,intA b,intA c,intA d,intA e,intA f],129⟩)::[]) [some (intA (IntKind.wrap .i64 (a-g)))]
theorem F205_own (a b c d e f g:Int) (R:AV→Mem→Prop) (h:F205 a b c d e f g R):Own pg KK.gl 205 [AV.agg [intA a,intA b,intA c,intA d,intA e,intA f],intA g] R:=own_of_F fol Tryz.func205 (code:=c205) krE krE krE (X:=F205 a b c d e f g R) krE h
/- slices.BinarySearchFunc[skyway/api.Tube,skyway/api.TubeNode,int] -/
noncomputable def c204:Code:=((Tryz.f204).body).getD .skip
noncomputable def q204 (R:AV→Mem→Prop):AExit→St→Prop:=retQ pg Tryz.f204 R
noncomputable def c204_0:Code:=loopB c204 0
noncomputable def q204_0 (R:AV→Mem→Prop):AExit→St→Prop:=contW pg KK 49 0 c204 0 (q204 R)
noncomputable def qq204_0 (R:AV→Mem→Prop) (N0:St→Prop):AExit→St→Prop:=thenQ N0 (q204_0 R)
def h204_0 (a:AV) (b:Int) (c:AV) (d:Int) (e:Bool) (f g h:Int) (m:Mem):St:=⟨[(0,a),(1,(intA b)),(2,c),(6,(intA d)),(7,(boolA e)),(8,(intA f)),(9,(intA g)),(10,(intA h))],m,100000⟩
noncomputable def B204_0 (e:AV) (f:Int) (g:AV) (s:Int) (t:Bool) (h a c:Int) (m:Mem) (R:AV→Mem→Prop) (N0:St→Prop):Prop:=
bif (decide (a<c)) then (
opP (opA pg (.convert 3 144 (.tmp 0)) 144 [intA (IntKind.wrap .i64 (a+c))] (mget m) 100006) fun v2=>
ex_u64 v2 fun i=>
opP (opA pg (.binOp .shr 144 (.tmp 0) (.tmp 1) 144) 144 [AV.sc (.int .u64 i),AV.sc (.int .u64 (1))] (mget m) 100007) fun v4=>
ex_u64 v4 fun j=>
opP (opA pg (.convert 144 3 (.tmp 0)) 3 [AV.sc (.int .u64 j)] (mget m) 100008) fun v6=>
ex_i64 v6 fun b=>
opP (idxS 6 e (intA b)) fun k=>
opP (ldA (mget m) 6 k) fun v9=>
exA6 v9 fun aa ab ad ae af ag=>
ex_i64 aa fun l=>
ex_i64 ab fun n=>
ex_i64 ad fun o=>
ex_i64 ae fun p=>
ex_i64 af fun q=>
ex_i64 ag fun r=>
fnArgs (some g) (some [AV.agg [intA l,intA n,intA o,intA p,intA q,intA r],intA f]) fun f22 x=>bif KK.pm f22 then callQ pg KK.gl m f22 x (fun u=>
ex_i64 u fun d=>
bif (decide (d<(0))) then (
N0 ⟨[(0,e),(1,(intA f)),(2,g),(6,(intA s)),(7,(boolA t)),(8,(intA h)),(9,(intA (IntKind.wrap .i64 (b+(1))))),(10,(intA c)),(15,(intA a)),(16,(intA c)),(17,(boolA (decide (a<c)))),(18,(intA a)),(19,(intA c)),(20,(intA (IntKind.wrap .i64 (a+c)))),(21,(AV.sc (.int .u64 i))),(22,(AV.sc (.int .u64 j))),(23,(intA b)),(11,(intA b)),(24,g),(25,e),(26,(intA b)),(27,k),(28,(AV.agg [intA l,intA n,intA o,intA p,intA q,intA r])),(29,(intA f)),(30,(intA d)),(31,(boolA (decide (d<(0))))),(32,(intA b)),(33,(intA (IntKind.wrap .i64 (b+(1)))))],m,100084⟩) else (
N0 ⟨[(0,e),(1,(intA f)),(2,g),(6,(intA s)),(7,(boolA t)),(8,(intA h)),(9,(intA a)),(10,(intA b)),(15,(intA a)),(16,(intA c)),(17,(boolA (decide (a<c)))),(18,(intA a)),(19,(intA c)),(20,(intA (IntKind.wrap .i64 (a+c)))),(21,(AV.sc (.int .u64 i))),(22,(AV.sc (.int .u64 j))),(23,(intA b)),(11,(intA b)),(24,g),(25,e),(26,(intA b)),(27,k),(28,(AV.agg [intA l,intA n,intA o,intA p,intA q,intA r])),(29,(intA f)),(30,(intA d)),(31,(boolA (decide (d<(0))))),(34,(intA b))],m,100083⟩)) else callW pg KK.gl m 100016 f22 x fun u y=>
ex_i64 u fun d=>
bif (decide (d<(0))) then (
N0 ⟨[(0,e),(1,(intA f)),(2,g),(6,(intA s)),(7,(boolA t)),(8,(intA h)),(9,(intA (IntKind.wrap .i64 (b+(1))))),(10,(intA c)),(15,(intA a)),(16,(intA c)),(17,(boolA (decide (a<c)))),(18,(intA a)),(19,(intA c)),(20,(intA (IntKind.wrap .i64 (a+c)))),(21,(AV.sc (.int .u64 i))),(22,(AV.sc (.int .u64 j))),(23,(intA b)),(11,(intA b)),(24,g),(25,e),(26,(intA b)),(27,k),(28,(AV.agg [intA l,intA n,intA o,intA p,intA q,intA r])),(29,(intA f)),(30,(intA d)),(31,(boolA (decide (d<(0))))),(32,(intA b)),(33,(intA (IntKind.wrap .i64 (b+(1)))))],y,100084⟩) else (
N0 ⟨[(0,e),(1,(intA f)),(2,g),(6,(intA s)),(7,(boolA t)),(8,(intA h)),(9,(intA a)),(10,(intA b)),(15,(intA a)),(16,(intA c)),(17,(boolA (decide (a<c)))),(18,(intA a)),(19,(intA c)),(20,(intA (IntKind.wrap .i64 (a+c)))),(21,(AV.sc (.int .u64 i))),(22,(AV.sc (.int .u64 j))),(23,(intA b)),(11,(intA b)),(24,g),(25,e),(26,(intA b)),(27,k),(28,(AV.agg [intA l,intA n,intA o,intA p,intA q,intA r])),(29,(intA f)),(30,(intA d)),(31,(boolA (decide (d<(0))))),(34,(intA b))],y,100083⟩)) else (
bif (decide (a<h)) then (
opP (idxS 6 e (intA a)) fun ah=>
opP (ldA (mget m) 6 ah) fun ai=>
exA6 ai fun aj ak al am an ao=>
ex_i64 aj fun ap=>
ex_i64 ak fun aq=>
ex_i64 al fun ar=>
ex_i64 am fun au=>
ex_i64 an fun av=>
ex_i64 ao fun aw=>
fnArgs (some g) (some [AV.agg [intA ap,intA aq,intA ar,intA au,intA av,intA aw],intA f]) fun f38 z=>bif KK.pm f38 then callQ pg KK.gl m f38 z (fun v=>
ex_i64 v fun w=>
retL R m [some (intA a),some (boolA (w==(0)))]) else callW pg KK.gl m 100014 f38 z fun v ax=>
ex_i64 v fun w=>
retL R ax [some (intA a),some (boolA (w==(0)))]) else (
retL R m [some (intA a),some (boolA false)]))
theorem B204_0_eq (a:AV) (b:Int) (c:AV) (d:Int) (e:Bool) (f g h:Int) (m:Mem) (R:AV→Mem→Prop) (N0:St→Prop):W pg KK 49 0 c204_0 (h204_0 a b c d e f g h m) (qq204_0 R N0)=B204_0 a b c d e f g h m R N0:=by kernel_rfl
theorem L204_0 (R:AV→Mem→Prop) {σ:Type} (I:σ→Prop) (a:σ→AV) (b:σ→Int) (c:σ→AV) (d:σ→Int) (e:σ→Bool) (f g h:σ→Int) (m:σ→Mem) (μ:σ→Nat) (step:∀x,I x→B204_0 (a x) (b x) (c x) (d x) (e x) (f x) (g x) (h x) (m x) R (fun s'=>∃y,I y∧μ y<μ x∧Weak KK 49 0 s' (h204_0 (a y) (b y) (c y) (d y) (e y) (f y) (g y) (h y) (m y)))) (x:σ) (hx:I x) {s:St} (hw:Weak KK 49 0 s (h204_0 (a x) (b x) (c x) (d x) (e x) (f x) (g x) (h x) (m x))):Tri pg KK 49 0 (.loop c204_0) s (q204_0 R):=
 Tri.weak hw (Tri.loops fol I (fun x=>h204_0 (a x) (b x) (c x) (d x) (e x) (f x) (g x) (h x) (m x)) μ (fun x hx=>(B204_0_eq (a x) (b x) (c x) (d x) (e x) (f x) (g x) (h x) (m x) R _).mpr (step x hx)) x hx)
noncomputable def F204 (b:AV) (c:Int) (d:AV) (R:AV→Mem→Prop):Prop:=
opP (lenS b) fun e=>
ex_i64 e fun a=>
Tri pg KK 49 0 (.loop c204_0) ⟨[(0,b),(1,(intA c)),(2,d),(6,(intA (0))),(7,(boolA false)),(12,b),(13,(intA a)),(8,(intA a)),(14,(intA a)),(9,(intA (0))),(10,(intA a))],[],8⟩ (q204_0 R)
theorem F204_own (a:AV) (b:Int) (c:AV) (R:AV→Mem→Prop) (h:F204 a b c R):Own pg KK.gl 204 [a,intA b,c] R:=own_of_F fol Tryz.func204 (code:=c204) krE krE krE (X:=F204 a b c R) krE h
/- skyway/num.DivDown -/
noncomputable def c207:Code:=((Tryz.f207).body).getD .skip
noncomputable def q207 (R:AV→Mem→Prop):AExit→St→Prop:=retQ pg Tryz.f207 R
noncomputable def F207 (b a:Int) (R:AV→Mem→Prop):Prop:=
bif (a==(0)) then (
retL R [] [some (intA (0)),some (intA (10))]) else (
bif (b==(-9223372036854775808)) then (
bif (a==(-1)) then (
retL R [] [some (intA (0)),some (intA (2))]) else (
opP (opA pg (.binOp .quo 3 (.tmp 0) (.tmp 1) 3) 3 [intA b,intA a] (mget []) 14) fun e=>
ex_i64 e fun c=>
opP (opA pg (.binOp .rem 3 (.tmp 0) (.tmp 1) 3) 3 [intA b,intA a] (mget []) 18) fun f=>
ex_i64 f fun g=>
bif (g !=(0)) then (
opP (opA pg (.binOp .neq 4 (.tmp 0) (.tmp 1) 4) 4 [boolA (decide (b<(0))),boolA (decide (a<(0)))] (mget []) 25) fun h=>
exB h fun i=>
bif i then (
retL R [] [some (intA (IntKind.wrap .i64 (c-(1)))),some (intA (0))]) else (
retL R [] [some (intA c),some (intA (0))])) else (
retL R [] [some (intA c),some (intA (0))]))) else (
opP (opA pg (.binOp .quo 3 (.tmp 0) (.tmp 1) 3) 3 [intA b,intA a] (mget []) 12) fun j=>
ex_i64 j fun d=>
opP (opA pg (.binOp .rem 3 (.tmp 0) (.tmp 1) 3) 3 [intA b,intA a] (mget []) 16) fun k=>
ex_i64 k fun l=>
bif (l !=(0)) then (
opP (opA pg (.binOp .neq 4 (.tmp 0) (.tmp 1) 4) 4 [boolA (decide (b<(0))),boolA (decide (a<(0)))] (mget []) 23) fun m=>
exB m fun n=>
bif n then (
retL R [] [some (intA (IntKind.wrap .i64 (d-(1)))),some (intA (0))]) else (
retL R [] [some (intA d),some (intA (0))])) else (
retL R [] [some (intA d),some (intA (0))])))
theorem F207_own (a b:Int) (R:AV→Mem→Prop) (h:F207 a b R):Own pg KK.gl 207 [intA a,intA b] R:=own_of_F fol Tryz.func207 (code:=c207) krE krE krE (X:=F207 a b R) krE h
/- skyway/plane.Toward -/
noncomputable def c206:Code:=((Tryz.f206).body).getD .skip
noncomputable def q206 (R:AV→Mem→Prop):AExit→St→Prop:=retQ pg Tryz.f206 R
noncomputable def F206 (a b c d f e:Int) (R:AV→Mem→Prop):Prop:=
bif (decide (e≤(0))) then (
opP (bld [intA (0),intA (0)] [(0,1),(1,1)] []) fun g=>
storeW pg (mget ((2,some ⟨[intA (0),intA (0)],38⟩)::(1,some ⟨[intA c,intA d],38⟩)::(0,some ⟨[intA a,intA b],38⟩)::[])) 38 (AV.ptr 2 0) g fun v1 d1=>
retL R (mpushs ((2,some ⟨[intA (0),intA (0)],38⟩)::(1,some ⟨[intA c,intA d],38⟩)::(0,some ⟨[intA a,intA b],38⟩)::[]) d1) [(aLoad pg (mget (mpushs ((2,some ⟨[intA (0),intA (0)],38⟩)::(1,some ⟨[intA c,intA d],38⟩)::(0,some ⟨[intA a,intA b],38⟩)::[]) d1)) 38 (AV.ptr 2 0)).map (·.1),some (intA (10))]) else (
bif (decide (e>(200000))) then (
opP (bld [intA (0),intA (0)] [(0,1),(1,1)] []) fun h=>
storeW pg (mget ((2,some ⟨[intA (0),intA (0)],38⟩)::(1,some ⟨[intA c,intA d],38⟩)::(0,some ⟨[intA a,intA b],38⟩)::[])) 38 (AV.ptr 2 0) h fun v3 d3=>
retL R (mpushs ((2,some ⟨[intA (0),intA (0)],38⟩)::(1,some ⟨[intA c,intA d],38⟩)::(0,some ⟨[intA a,intA b],38⟩)::[]) d3) [(aLoad pg (mget (mpushs ((2,some ⟨[intA (0),intA (0)],38⟩)::(1,some ⟨[intA c,intA d],38⟩)::(0,some ⟨[intA a,intA b],38⟩)::[]) d3)) 38 (AV.ptr 2 0)).map (·.1),some (intA (4))]) else (
bif (decide (f<(0))) then (
opP (bld [intA (0),intA (0)] [(0,1),(1,1)] []) fun i=>
storeW pg (mget ((2,some ⟨[intA (0),intA (0)],38⟩)::(1,some ⟨[intA c,intA d],38⟩)::(0,some ⟨[intA a,intA b],38⟩)::[])) 38 (AV.ptr 2 0) i fun v5 d5=>
retL R (mpushs ((2,some ⟨[intA (0),intA (0)],38⟩)::(1,some ⟨[intA c,intA d],38⟩)::(0,some ⟨[intA a,intA b],38⟩)::[]) d5) [(aLoad pg (mget (mpushs ((2,some ⟨[intA (0),intA (0)],38⟩)::(1,some ⟨[intA c,intA d],38⟩)::(0,some ⟨[intA a,intA b],38⟩)::[]) d5)) 38 (AV.ptr 2 0)).map (·.1),some (intA (4))]) else (
bif (decide (f>e)) then (
opP (bld [intA (0),intA (0)] [(0,1),(1,1)] []) fun j=>
storeW pg (mget ((2,some ⟨[intA (0),intA (0)],38⟩)::(1,some ⟨[intA c,intA d],38⟩)::(0,some ⟨[intA a,intA b],38⟩)::[])) 38 (AV.ptr 2 0) j fun v7 d7=>
retL R (mpushs ((2,some ⟨[intA (0),intA (0)],38⟩)::(1,some ⟨[intA c,intA d],38⟩)::(0,some ⟨[intA a,intA b],38⟩)::[]) d7) [(aLoad pg (mget (mpushs ((2,some ⟨[intA (0),intA (0)],38⟩)::(1,some ⟨[intA c,intA d],38⟩)::(0,some ⟨[intA a,intA b],38⟩)::[]) d7)) 38 (AV.ptr 2 0)).map (·.1),some (intA (4))]) else (
callQ pg KK.gl ((2,some ⟨[intA (0),intA (0)],38⟩)::(1,some ⟨[intA c,intA d],38⟩)::(0,some ⟨[intA a,intA b],38⟩)::[]) 70 [AV.agg [intA a,intA b]] fun k=>
ex_i64 k fun l=>
bif (l !=(0)) then (
opP (bld [intA (0),intA (0)] [(0,1),(1,1)] []) fun m=>
callQ pg KK.gl ((2,some ⟨[intA (0),intA (0)],38⟩)::(1,some ⟨[intA c,intA d],38⟩)::(0,some ⟨[intA a,intA b],38⟩)::[]) 70 [AV.agg [intA a,intA b]] fun n=>
ex_i64 n fun o=>
storeW pg (mget ((2,some ⟨[intA (0),intA (0)],38⟩)::(1,some ⟨[intA c,intA d],38⟩)::(0,some ⟨[intA a,intA b],38⟩)::[])) 38 (AV.ptr 2 0) m fun ae d13=>
retL R (mpushs ((2,some ⟨[intA (0),intA (0)],38⟩)::(1,some ⟨[intA c,intA d],38⟩)::(0,some ⟨[intA a,intA b],38⟩)::[]) d13) [(aLoad pg (mget (mpushs ((2,some ⟨[intA (0),intA (0)],38⟩)::(1,some ⟨[intA c,intA d],38⟩)::(0,some ⟨[intA a,intA b],38⟩)::[]) d13)) 38 (AV.ptr 2 0)).map (·.1),some (intA o)]) else (
callQ pg KK.gl ((2,some ⟨[intA (0),intA (0)],38⟩)::(1,some ⟨[intA c,intA d],38⟩)::(0,some ⟨[intA a,intA b],38⟩)::[]) 70 [AV.agg [intA c,intA d]] fun p=>
ex_i64 p fun q=>
bif (q !=(0)) then (
opP (bld [intA (0),intA (0)] [(0,1),(1,1)] []) fun r=>
callQ pg KK.gl ((2,some ⟨[intA (0),intA (0)],38⟩)::(1,some ⟨[intA c,intA d],38⟩)::(0,some ⟨[intA a,intA b],38⟩)::[]) 70 [AV.agg [intA c,intA d]] fun s=>
ex_i64 s fun t=>
storeW pg (mget ((2,some ⟨[intA (0),intA (0)],38⟩)::(1,some ⟨[intA c,intA d],38⟩)::(0,some ⟨[intA a,intA b],38⟩)::[])) 38 (AV.ptr 2 0) r fun af d19=>
retL R (mpushs ((2,some ⟨[intA (0),intA (0)],38⟩)::(1,some ⟨[intA c,intA d],38⟩)::(0,some ⟨[intA a,intA b],38⟩)::[]) d19) [(aLoad pg (mget (mpushs ((2,some ⟨[intA (0),intA (0)],38⟩)::(1,some ⟨[intA c,intA d],38⟩)::(0,some ⟨[intA a,intA b],38⟩)::[]) d19)) 38 (AV.ptr 2 0)).map (·.1),some (intA t)]) else (
callQ pg KK.gl ((2,some ⟨[intA (0),intA (0)],38⟩)::(1,some ⟨[intA c,intA d],38⟩)::(0,some ⟨[intA a,intA b],38⟩)::[]) 207 [intA (IntKind.wrap .i64 ((IntKind.wrap .i64 (c-a))*f)),intA e] fun u=>
exT2 u fun v w=>
ex_i64 v fun x=>
ex_i64 w fun ag=>
callQ pg KK.gl ((2,some ⟨[intA (0),intA (0)],38⟩)::(1,some ⟨[intA c,intA d],38⟩)::(0,some ⟨[intA a,intA b],38⟩)::[]) 207 [intA (IntKind.wrap .i64 ((IntKind.wrap .i64 (d-b))*f)),intA e] fun y=>
exT2 y fun z aa=>
ex_i64 z fun ab=>
ex_i64 aa fun ah=>
opP (bld [intA (0),intA (0)] [(0,1),(1,1)] [(0,(intA (IntKind.wrap .i64 (a+x)))),(1,(intA (IntKind.wrap .i64 (b+ab))))]) fun ad=>
storeW pg (mget ((2,some ⟨[intA (0),intA (0)],38⟩)::(1,some ⟨[intA c,intA d],38⟩)::(0,some ⟨[intA a,intA b],38⟩)::[])) 38 (AV.ptr 2 0) ad fun ai d31=>
retL R (mpushs ((2,some ⟨[intA (0),intA (0)],38⟩)::(1,some ⟨[intA c,intA d],38⟩)::(0,some ⟨[intA a,intA b],38⟩)::[]) d31) [(aLoad pg (mget (mpushs ((2,some ⟨[intA (0),intA (0)],38⟩)::(1,some ⟨[intA c,intA d],38⟩)::(0,some ⟨[intA a,intA b],38⟩)::[]) d31)) 38 (AV.ptr 2 0)).map (·.1),some (intA (0))]))))))
theorem F206_own (a b c d e f:Int) (R:AV→Mem→Prop) (h:F206 a b c d e f R):Own pg KK.gl 206 [AV.agg [intA a,intA b],AV.agg [intA c,intA d],intA e,intA f] R:=own_of_F fol Tryz.func206 (code:=c206) krE krE krE (X:=F206 a b c d e f R) krE h
/- skyway/num.DivUp -/
noncomputable def c208:Code:=((Tryz.f208).body).getD .skip
noncomputable def q208 (R:AV→Mem→Prop):AExit→St→Prop:=retQ pg Tryz.f208 R
noncomputable def F208 (c d:Int) (R:AV→Mem→Prop):Prop:=
callQ pg KK.gl [] 207 [intA c,intA d] fun e=>
exT2 e fun f g=>
ex_i64 f fun b=>
ex_i64 g fun a=>
bif (a==(0)) then (
opP (opA pg (.binOp .rem 3 (.tmp 0) (.tmp 1) 3) 3 [intA c,intA d] (mget []) 78) fun h=>
ex_i64 h fun i=>
bif (i !=(0)) then (
retL R [] [some (intA (IntKind.wrap .i64 (b+(1)))),some (intA a)]) else (
retL R [] [some (intA b),some (intA a)])) else (
retL R [] [some (intA b),some (intA a)])
theorem F208_own (a b:Int) (R:AV→Mem→Prop) (h:F208 a b R):Own pg KK.gl 208 [intA a,intA b] R:=own_of_F fol Tryz.func208 (code:=c208) krE krE krE (X:=F208 a b R) krE h
/- skyway/tube.at -/
noncomputable def c138:Code:=((Tryz.f138).body).getD .skip
noncomputable def q138 (R:AV→Mem→Prop):AExit→St→Prop:=retQ pg Tryz.f138 R
noncomputable def F138 (e:AV) (d:Int) (R:AV→Mem→Prop):Prop:=
callW pg KK.gl ((0,some ⟨[intA (0),intA (0),intA (0),intA (0),intA (0),intA (0)],129⟩)::[]) 3 204 [e,intA d,AV.fn 205 []] fun x a=>
exT2 x fun y z=>
ex_i64 y fun i=>
exB z fun b4=>
bif b4 then (
opP (idxS 6 e (intA i)) fun v5=>
opP (ldA (mget a) 6 v5) fun v6=>
exA6 v6 fun c7 c8 c9 aa ab ad=>
ex_i64 c7 fun ae=>
ex_i64 c8 fun af=>
ex_i64 c9 fun ag=>
ex_i64 aa fun ah=>
ex_i64 ab fun ai=>
ex_i64 ad fun aj=>
storeW pg (mget a) 129 (AV.ptr 0 0) (AV.agg [intA ae,intA af,intA ag,intA ah,intA ai,intA aj]) fun ct d19=>
retL R (mpushs a d19) [(aLoad pg (mget (mpushs a d19)) 129 (AV.ptr 0 0)).map (·.1)]) else (
opM (idxS 6 e (intA (IntKind.wrap .i64 (i-(1))))) fun j d20=>
opM (ldA (look' (mpushs a d20) (topId j++([]))) 6 j) fun ak d21=>
exA6 ak fun al c23 am an ao ap=>
ex_i64 al fun k=>
ex_i64 c23 fun l=>
ex_i64 am fun m=>
ex_i64 an fun n=>
ex_i64 ao fun o=>
ex_i64 ap fun p=>
opM (idxS 6 e (intA i)) fun q d34=>
opM (ldA (look' (mpushs (mpushs (mpushs a d20) d21) d34) (topId q++([]))) 6 q) fun aq d35=>
exA6 aq fun c36 c37 c38 ar c40 c41=>
ex_i64 c36 fun r=>
ex_i64 c37 fun s=>
ex_i64 c38 fun t=>
ex_i64 ar fun u=>
ex_i64 c40 fun v=>
ex_i64 c41 fun w=>
storeW pg (look' ((83,some ⟨[intA (0),intA (0),intA (0),intA (0),intA (0),intA (0)],129⟩)::(82,some ⟨[intA (0),intA (0),intA (0),intA (0),intA (0),intA (0)],129⟩)::(mpushs (mpushs (mpushs (mpushs a d20) d21) d34) d35)) (topId (AV.ptr 82 0)++(topId (AV.agg [intA k,intA l,intA m,intA n,intA o,intA p])++([])))) 129 (AV.ptr 82 0) (AV.agg [intA k,intA l,intA m,intA n,intA o,intA p]) fun cu d48=>
storeW pg (look' (mpushs ((83,some ⟨[intA (0),intA (0),intA (0),intA (0),intA (0),intA (0)],129⟩)::(82,some ⟨[intA (0),intA (0),intA (0),intA (0),intA (0),intA (0)],129⟩)::(mpushs (mpushs (mpushs (mpushs a d20) d21) d34) d35)) d48) (topId (AV.ptr 83 0)++(topId (AV.agg [intA r,intA s,intA t,intA u,intA v,intA w])++([])))) 129 (AV.ptr 83 0) (AV.agg [intA r,intA s,intA t,intA u,intA v,intA w]) fun cv d49=>
chk (confOk [0,0,2,7,15,0,0,96,224,0,0,1567,4095] [⟨[],[]⟩,⟨[],[]⟩,⟨[],[]⟩,⟨d20,[]⟩,⟨d21,topId j++([])⟩,⟨[],[]⟩,⟨[],[]⟩,⟨d34,[]⟩,⟨d35,topId q++([])⟩,⟨[(82,some ⟨[intA (0),intA (0),intA (0),intA (0),intA (0),intA (0)],129⟩)],[]⟩,⟨[(83,some ⟨[intA (0),intA (0),intA (0),intA (0),intA (0),intA (0)],129⟩)],[]⟩,⟨d48,topId (AV.ptr 82 0)++(topId (AV.agg [intA k,intA l,intA m,intA n,intA o,intA p])++([]))⟩,⟨d49,topId (AV.ptr 83 0)++(topId (AV.agg [intA r,intA s,intA t,intA u,intA v,intA w])++([]))⟩]) (opP (ldS (mget (mpushs (mpushs ((83,some ⟨[intA (0),intA (0),intA (0),intA (0),intA (0),intA (0)],129⟩)::(82,some ⟨[intA (0),intA (0),intA (0),intA (0),intA (0),intA (0)],129⟩)::(mpushs (mpushs (mpushs (mpushs a d20) d21) d34) d35)) d48) d49)) (AV.ptr 82 0)) fun au=>
ex_i64 au fun f=>
opP (ldS (mget (mpushs (mpushs ((83,some ⟨[intA (0),intA (0),intA (0),intA (0),intA (0),intA (0)],129⟩)::(82,some ⟨[intA (0),intA (0),intA (0),intA (0),intA (0),intA (0)],129⟩)::(mpushs (mpushs (mpushs (mpushs a d20) d21) d34) d35)) d48) d49)) (AV.ptr 83 0)) fun av=>
ex_i64 av fun g=>
opP (ldS (mget (mpushs (mpushs ((83,some ⟨[intA (0),intA (0),intA (0),intA (0),intA (0),intA (0)],129⟩)::(82,some ⟨[intA (0),intA (0),intA (0),intA (0),intA (0),intA (0)],129⟩)::(mpushs (mpushs (mpushs (mpushs a d20) d21) d34) d35)) d48) d49)) (AV.ptr 82 0)) fun aw=>
ex_i64 aw fun h=>
opP (ldA (mget (mpushs (mpushs ((83,some ⟨[intA (0),intA (0),intA (0),intA (0),intA (0),intA (0)],129⟩)::(82,some ⟨[intA (0),intA (0),intA (0),intA (0),intA (0),intA (0)],129⟩)::(mpushs (mpushs (mpushs (mpushs a d20) d21) d34) d35)) d48) d49)) 2 (AV.ptr 82 1)) fun ax=>
exA2 ax fun ay az=>
ex_i64 ay fun ba=>
ex_i64 az fun bb=>
opP (ldA (mget (mpushs (mpushs ((83,some ⟨[intA (0),intA (0),intA (0),intA (0),intA (0),intA (0)],129⟩)::(82,some ⟨[intA (0),intA (0),intA (0),intA (0),intA (0),intA (0)],129⟩)::(mpushs (mpushs (mpushs (mpushs a d20) d21) d34) d35)) d48) d49)) 2 (AV.ptr 83 1)) fun bc=>
exA2 bc fun bd be=>
ex_i64 bd fun bf=>
ex_i64 be fun bg=>
callQ pg KK.gl (mpushs (mpushs ((83,some ⟨[intA (0),intA (0),intA (0),intA (0),intA (0),intA (0)],129⟩)::(82,some ⟨[intA (0),intA (0),intA (0),intA (0),intA (0),intA (0)],129⟩)::(mpushs (mpushs (mpushs (mpushs a d20) d21) d34) d35)) d48) d49) 206 [AV.agg [intA ba,intA bb],AV.agg [intA bf,intA bg],intA (IntKind.wrap .i64 (d-f)),intA (IntKind.wrap .i64 (g-h))] fun bh=>
exT2 bh fun bi bj=>
exA2 bi fun bk c70=>
ex_i64 bk fun b=>
ex_i64 c70 fun c=>
ex_i64 bj fun cw=>
opP (ldS (mget ((175,some ⟨[intA b,intA c],38⟩)::(175,some ⟨[intA (0),intA (0)],38⟩)::(mpushs (mpushs ((83,some ⟨[intA (0),intA (0),intA (0),intA (0),intA (0),intA (0)],129⟩)::(82,some ⟨[intA (0),intA (0),intA (0),intA (0),intA (0),intA (0)],129⟩)::(mpushs (mpushs (mpushs (mpushs a d20) d21) d34) d35)) d48) d49))) (AV.ptr 83 3)) fun bl=>
ex_i64 bl fun bm=>
opP (ldS (mget ((175,some ⟨[intA b,intA c],38⟩)::(175,some ⟨[intA (0),intA (0)],38⟩)::(mpushs (mpushs ((83,some ⟨[intA (0),intA (0),intA (0),intA (0),intA (0),intA (0)],129⟩)::(82,some ⟨[intA (0),intA (0),intA (0),intA (0),intA (0),intA (0)],129⟩)::(mpushs (mpushs (mpushs (mpushs a d20) d21) d34) d35)) d48) d49))) (AV.ptr 82 3)) fun bn=>
ex_i64 bn fun bo=>
callQ pg KK.gl ((175,some ⟨[intA b,intA c],38⟩)::(175,some ⟨[intA (0),intA (0)],38⟩)::(mpushs (mpushs ((83,some ⟨[intA (0),intA (0),intA (0),intA (0),intA (0),intA (0)],129⟩)::(82,some ⟨[intA (0),intA (0),intA (0),intA (0),intA (0),intA (0)],129⟩)::(mpushs (mpushs (mpushs (mpushs a d20) d21) d34) d35)) d48) d49)) 207 [intA (IntKind.wrap .i64 ((IntKind.wrap .i64 (bm-bo))*(IntKind.wrap .i64 (d-f)))),intA (IntKind.wrap .i64 (g-h))] fun bp=>
exT2 bp fun bq br=>
ex_i64 bq fun bs=>
ex_i64 br fun cx=>
opP (ldS (mget ((175,some ⟨[intA b,intA c],38⟩)::(175,some ⟨[intA (0),intA (0)],38⟩)::(mpushs (mpushs ((83,some ⟨[intA (0),intA (0),intA (0),intA (0),intA (0),intA (0)],129⟩)::(82,some ⟨[intA (0),intA (0),intA (0),intA (0),intA (0),intA (0)],129⟩)::(mpushs (mpushs (mpushs (mpushs a d20) d21) d34) d35)) d48) d49))) (AV.ptr 83 4)) fun bt=>
ex_i64 bt fun bu=>
opP (ldS (mget ((175,some ⟨[intA b,intA c],38⟩)::(175,some ⟨[intA (0),intA (0)],38⟩)::(mpushs (mpushs ((83,some ⟨[intA (0),intA (0),intA (0),intA (0),intA (0),intA (0)],129⟩)::(82,some ⟨[intA (0),intA (0),intA (0),intA (0),intA (0),intA (0)],129⟩)::(mpushs (mpushs (mpushs (mpushs a d20) d21) d34) d35)) d48) d49))) (AV.ptr 82 4)) fun bv=>
ex_i64 bv fun bw=>
callQ pg KK.gl ((175,some ⟨[intA b,intA c],38⟩)::(175,some ⟨[intA (0),intA (0)],38⟩)::(mpushs (mpushs ((83,some ⟨[intA (0),intA (0),intA (0),intA (0),intA (0),intA (0)],129⟩)::(82,some ⟨[intA (0),intA (0),intA (0),intA (0),intA (0),intA (0)],129⟩)::(mpushs (mpushs (mpushs (mpushs a d20) d21) d34) d35)) d48) d49)) 208 [intA (IntKind.wrap .i64 ((IntKind.wrap .i64 (bu-bw))*(IntKind.wrap .i64 (d-f)))),intA (IntKind.wrap .i64 (g-h))] fun bz=>
exT2 bz fun ca cb=>
ex_i64 ca fun cc=>
ex_i64 cb fun cy=>
opP (ldS (mget ((175,some ⟨[intA b,intA c],38⟩)::(175,some ⟨[intA (0),intA (0)],38⟩)::(mpushs (mpushs ((83,some ⟨[intA (0),intA (0),intA (0),intA (0),intA (0),intA (0)],129⟩)::(82,some ⟨[intA (0),intA (0),intA (0),intA (0),intA (0),intA (0)],129⟩)::(mpushs (mpushs (mpushs (mpushs a d20) d21) d34) d35)) d48) d49))) (AV.ptr 83 5)) fun cd=>
ex_i64 cd fun ce=>
opP (ldS (mget ((175,some ⟨[intA b,intA c],38⟩)::(175,some ⟨[intA (0),intA (0)],38⟩)::(mpushs (mpushs ((83,some ⟨[intA (0),intA (0),intA (0),intA (0),intA (0),intA (0)],129⟩)::(82,some ⟨[intA (0),intA (0),intA (0),intA (0),intA (0),intA (0)],129⟩)::(mpushs (mpushs (mpushs (mpushs a d20) d21) d34) d35)) d48) d49))) (AV.ptr 82 5)) fun cf=>
ex_i64 cf fun cg=>
callQ pg KK.gl ((175,some ⟨[intA b,intA c],38⟩)::(175,some ⟨[intA (0),intA (0)],38⟩)::(mpushs (mpushs ((83,some ⟨[intA (0),intA (0),intA (0),intA (0),intA (0),intA (0)],129⟩)::(82,some ⟨[intA (0),intA (0),intA (0),intA (0),intA (0),intA (0)],129⟩)::(mpushs (mpushs (mpushs (mpushs a d20) d21) d34) d35)) d48) d49)) 208 [intA (IntKind.wrap .i64 ((IntKind.wrap .i64 (ce-cg))*(IntKind.wrap .i64 (d-f)))),intA (IntKind.wrap .i64 (g-h))] fun ch=>
exT2 ch fun ci cj=>
ex_i64 ci fun ck=>
ex_i64 cj fun cz=>
opP (ldS (mget ((175,some ⟨[intA b,intA c],38⟩)::(175,some ⟨[intA (0),intA (0)],38⟩)::(mpushs (mpushs ((83,some ⟨[intA (0),intA (0),intA (0),intA (0),intA (0),intA (0)],129⟩)::(82,some ⟨[intA (0),intA (0),intA (0),intA (0),intA (0),intA (0)],129⟩)::(mpushs (mpushs (mpushs (mpushs a d20) d21) d34) d35)) d48) d49))) (AV.ptr 82 3)) fun cl=>
ex_i64 cl fun cm=>
opP (bld [intA (0),intA (0),intA (0),intA (0)] [(0,1),(1,2),(3,1)] [(0,(intA d)),(1,(AV.agg [intA b,intA c])),(2,(intA (IntKind.wrap .i64 (cm+bs))))]) fun cn=>
opP (ldS (mget ((175,some ⟨[intA b,intA c],38⟩)::(175,some ⟨[intA (0),intA (0)],38⟩)::(mpushs (mpushs ((83,some ⟨[intA (0),intA (0),intA (0),intA (0),intA (0),intA (0)],129⟩)::(82,some ⟨[intA (0),intA (0),intA (0),intA (0),intA (0),intA (0)],129⟩)::(mpushs (mpushs (mpushs (mpushs a d20) d21) d34) d35)) d48) d49))) (AV.ptr 82 4)) fun co=>
ex_i64 co fun cp=>
opP (ldS (mget ((175,some ⟨[intA b,intA c],38⟩)::(175,some ⟨[intA (0),intA (0)],38⟩)::(mpushs (mpushs ((83,some ⟨[intA (0),intA (0),intA (0),intA (0),intA (0),intA (0)],129⟩)::(82,some ⟨[intA (0),intA (0),intA (0),intA (0),intA (0),intA (0)],129⟩)::(mpushs (mpushs (mpushs (mpushs a d20) d21) d34) d35)) d48) d49))) (AV.ptr 82 5)) fun cq=>
ex_i64 cq fun cr=>
opP (bld [intA (0),intA (0),intA (0),intA (0),intA (0),intA (0)] [(0,4),(4,1),(5,1)] [(0,cn),(1,(intA (IntKind.wrap .i64 (cp+cc)))),(2,(intA (IntKind.wrap .i64 (cr+ck))))]) fun cs=>
storeW pg (mget ((175,some ⟨[intA b,intA c],38⟩)::(175,some ⟨[intA (0),intA (0)],38⟩)::(mpushs (mpushs ((83,some ⟨[intA (0),intA (0),intA (0),intA (0),intA (0),intA (0)],129⟩)::(82,some ⟨[intA (0),intA (0),intA (0),intA (0),intA (0),intA (0)],129⟩)::(mpushs (mpushs (mpushs (mpushs a d20) d21) d34) d35)) d48) d49))) 129 (AV.ptr 0 0) cs fun da d109=>
retL R (mpushs ((175,some ⟨[intA b,intA c],38⟩)::(175,some ⟨[intA (0),intA (0)],38⟩)::(mpushs (mpushs ((83,some ⟨[intA (0),intA (0),intA (0),intA (0),intA (0),intA (0)],129⟩)::(82,some ⟨[intA (0),intA (0),intA (0),intA (0),intA (0),intA (0)],129⟩)::(mpushs (mpushs (mpushs (mpushs a d20) d21) d34) d35)) d48) d49)) d109) [(aLoad pg (mget (mpushs ((175,some ⟨[intA b,intA c],38⟩)::(175,some ⟨[intA (0),intA (0)],38⟩)::(mpushs (mpushs ((83,some ⟨[intA (0),intA (0),intA (0),intA (0),intA (0),intA (0)],129⟩)::(82,some ⟨[intA (0),intA (0),intA (0),intA (0),intA (0),intA (0)],129⟩)::(mpushs (mpushs (mpushs (mpushs a d20) d21) d34) d35)) d48) d49)) d109)) 129 (AV.ptr 0 0)).map (·.1)]))
theorem F138_own (a:AV) (b:Int) (R:AV→Mem→Prop) (h:F138 a b R):Own pg KK.gl 138 [a,intA b] R:=own_of_F fol Tryz.func138 (code:=c138) krE krE krE (X:=F138 a b R) krE h
/- skyway/tube.At -/
noncomputable def c71:Code:=((Tryz.f71).body).getD .skip
noncomputable def q71 (R:AV→Mem→Prop):AExit→St→Prop:=retQ pg Tryz.f71 R
noncomputable def F71 (a:AV) (b:Int) (R:AV→Mem→Prop):Prop:=
callQ pg KK.gl ((0,some ⟨[intA (0),intA (0),intA (0),intA (0),intA (0),intA (0)],129⟩)::[]) 36 [a] fun j=>
ex_i64 j fun c=>
bif (c !=(0)) then (
opP (bld [intA (0),intA (0),intA (0),intA (0),intA (0),intA (0)] [(0,4),(4,1),(5,1)] []) fun k=>
storeW pg (mget ((0,some ⟨[intA (0),intA (0),intA (0),intA (0),intA (0),intA (0)],129⟩)::[])) 129 (AV.ptr 0 0) k fun x d3=>
retL R (mpushs ((0,some ⟨[intA (0),intA (0),intA (0),intA (0),intA (0),intA (0)],129⟩)::[]) d3) [(aLoad pg (mget (mpushs ((0,some ⟨[intA (0),intA (0),intA (0),intA (0),intA (0),intA (0)],129⟩)::[]) d3)) 129 (AV.ptr 0 0)).map (·.1),some (intA c)]) else (
callQ pg KK.gl ((0,some ⟨[intA (0),intA (0),intA (0),intA (0),intA (0),intA (0)],129⟩)::[]) 137 [a] fun l=>
exT2 l fun c5 c6=>
ex_i64 c5 fun m=>
ex_i64 c6 fun n=>
bif (decide (b<m)) then (
opP (bld [intA (0),intA (0),intA (0),intA (0),intA (0),intA (0)] [(0,4),(4,1),(5,1)] []) fun o=>
storeW pg (mget ((0,some ⟨[intA (0),intA (0),intA (0),intA (0),intA (0),intA (0)],129⟩)::[])) 129 (AV.ptr 0 0) o fun y d10=>
retL R (mpushs ((0,some ⟨[intA (0),intA (0),intA (0),intA (0),intA (0),intA (0)],129⟩)::[]) d10) [(aLoad pg (mget (mpushs ((0,some ⟨[intA (0),intA (0),intA (0),intA (0),intA (0),intA (0)],129⟩)::[]) d10)) 129 (AV.ptr 0 0)).map (·.1),some (intA (12))]) else (
bif (decide (b>n)) then (
opP (bld [intA (0),intA (0),intA (0),intA (0),intA (0),intA (0)] [(0,4),(4,1),(5,1)] []) fun p=>
storeW pg (mget ((0,some ⟨[intA (0),intA (0),intA (0),intA (0),intA (0),intA (0)],129⟩)::[])) 129 (AV.ptr 0 0) p fun z d12=>
retL R (mpushs ((0,some ⟨[intA (0),intA (0),intA (0),intA (0),intA (0),intA (0)],129⟩)::[]) d12) [(aLoad pg (mget (mpushs ((0,some ⟨[intA (0),intA (0),intA (0),intA (0),intA (0),intA (0)],129⟩)::[]) d12)) 129 (AV.ptr 0 0)).map (·.1),some (intA (12))]) else (
callQ pg KK.gl ((0,some ⟨[intA (0),intA (0),intA (0),intA (0),intA (0),intA (0)],129⟩)::[]) 138 [a,intA b] fun q=>
exA6 q fun r s t u v w=>
ex_i64 r fun d=>
ex_i64 s fun e=>
ex_i64 t fun f=>
ex_i64 u fun g=>
ex_i64 v fun h=>
ex_i64 w fun i=>
retL R ((0,some ⟨[intA d,intA e,intA f,intA g,intA h,intA i],129⟩)::(0,some ⟨[intA (0),intA (0),intA (0),intA (0),intA (0),intA (0)],129⟩)::[]) [some (AV.agg [intA d,intA e,intA f,intA g,intA h,intA i]),some (intA (0))])))
theorem F71_own (a:AV) (b:Int) (R:AV→Mem→Prop) (h:F71 a b R):Own pg KK.gl 71 [a,intA b] R:=own_of_F fol Tryz.func71 (code:=c71) krE krE krE (X:=F71 a b R) krE h
/- skyway/plane.Sub -/
noncomputable def c242:Code:=((Tryz.f242).body).getD .skip
noncomputable def q242 (R:AV→Mem→Prop):AExit→St→Prop:=retQ pg Tryz.f242 R
noncomputable def F242 (a b c d:Int) (R:AV→Mem→Prop):Prop:=
opP (bld [intA (0),intA (0)] [(0,1),(1,1)] [(0,(intA (IntKind.wrap .i64 (a-c)))),(1,(intA (IntKind.wrap .i64 (b-d))))]) fun e=>
storeW pg (mget ((2,some ⟨[intA (0),intA (0)],38⟩)::(1,some ⟨[intA c,intA d],38⟩)::(0,some ⟨[intA a,intA b],38⟩)::[])) 38 (AV.ptr 2 0) e fun f d1=>
retL R (mpushs ((2,some ⟨[intA (0),intA (0)],38⟩)::(1,some ⟨[intA c,intA d],38⟩)::(0,some ⟨[intA a,intA b],38⟩)::[]) d1) [(aLoad pg (mget (mpushs ((2,some ⟨[intA (0),intA (0)],38⟩)::(1,some ⟨[intA c,intA d],38⟩)::(0,some ⟨[intA a,intA b],38⟩)::[]) d1)) 38 (AV.ptr 2 0)).map (·.1)]
theorem F242_own (a b c d:Int) (R:AV→Mem→Prop) (h:F242 a b c d R):Own pg KK.gl 242 [AV.agg [intA a,intA b],AV.agg [intA c,intA d]] R:=own_of_F fol Tryz.func242 (code:=c242) krE krE krE (X:=F242 a b c d R) krE h
/- skyway/plane.Dot -/
noncomputable def c326:Code:=((Tryz.f326).body).getD .skip
noncomputable def q326 (R:AV→Mem→Prop):AExit→St→Prop:=retQ pg Tryz.f326 R
noncomputable def F326 (a b c d:Int) (R:AV→Mem→Prop):Prop:=
retL R ((1,some ⟨[intA c,intA d],38⟩)::(0,some ⟨[intA a,intA b],38⟩)::[]) [some (intA (IntKind.wrap .i64 ((IntKind.wrap .i64 (a*c))+(IntKind.wrap .i64 (b*d)))))]
theorem F326_own (a b c d:Int) (R:AV→Mem→Prop) (h:F326 a b c d R):Own pg KK.gl 326 [AV.agg [intA a,intA b],AV.agg [intA c,intA d]] R:=own_of_F fol Tryz.func326 (code:=c326) krE krE krE (X:=F326 a b c d R) krE h
/- skyway/plane.Square -/
noncomputable def c277:Code:=((Tryz.f277).body).getD .skip
noncomputable def q277 (R:AV→Mem→Prop):AExit→St→Prop:=retQ pg Tryz.f277 R
noncomputable def F277 (a b c d:Int) (R:AV→Mem→Prop):Prop:=
callQ pg KK.gl ((1,some ⟨[intA c,intA d],38⟩)::(0,some ⟨[intA a,intA b],38⟩)::[]) 242 [AV.agg [intA a,intA b],AV.agg [intA c,intA d]] fun g=>
exA2 g fun h i=>
ex_i64 h fun e=>
ex_i64 i fun f=>
callQ pg KK.gl ((69,some ⟨[intA e,intA f],38⟩)::(69,some ⟨[intA (0),intA (0)],38⟩)::(1,some ⟨[intA c,intA d],38⟩)::(0,some ⟨[intA a,intA b],38⟩)::[]) 326 [AV.agg [intA e,intA f],AV.agg [intA e,intA f]] fun j=>
ex_i64 j fun k=>
retL R ((69,some ⟨[intA e,intA f],38⟩)::(69,some ⟨[intA (0),intA (0)],38⟩)::(1,some ⟨[intA c,intA d],38⟩)::(0,some ⟨[intA a,intA b],38⟩)::[]) [some (intA k)]
theorem F277_own (a b c d:Int) (R:AV→Mem→Prop) (h:F277 a b c d R):Own pg KK.gl 277 [AV.agg [intA a,intA b],AV.agg [intA c,intA d]] R:=own_of_F fol Tryz.func277 (code:=c277) krE krE krE (X:=F277 a b c d R) krE h
/- skyway/num.Root -/
noncomputable def c278:Code:=((Tryz.f278).body).getD .skip
noncomputable def q278 (R:AV→Mem→Prop):AExit→St→Prop:=retQ pg Tryz.f278 R
noncomputable def c278_0:Code:=loopB c278 0
noncomputable def q278_0 (R:AV→Mem→Prop):AExit→St→Prop:=contW pg KK 27 0 c278 0 (q278 R)
noncomputable def qq278_0 (R:AV→Mem→Prop) (N0:St→Prop):AExit→St→Prop:=thenQ N0 (q278_0 R)
def h278_0 (a b c d:Int) (m:Mem):St:=⟨[(0,(intA a)),(2,(intA b)),(3,(intA c)),(4,(intA d))],m,100000⟩
noncomputable def B278_0 (c d a b:Int) (m:Mem) (R:AV→Mem→Prop) (N0:St→Prop):Prop:=
bif (decide (a<b)) then (
bif (decide ((IntKind.wrap .i64 ((IntKind.wrap .i64 (a+(IntKind.wrap .i64 (Int.tdiv (IntKind.wrap .i64 ((IntKind.wrap .i64 (b-a))+(1))) (2)))))*(IntKind.wrap .i64 (a+(IntKind.wrap .i64 (Int.tdiv (IntKind.wrap .i64 ((IntKind.wrap .i64 (b-a))+(1))) (2)))))))≤c)) then (
N0 ⟨[(0,(intA c)),(2,(intA d)),(3,(intA (IntKind.wrap .i64 (a+(IntKind.wrap .i64 (Int.tdiv (IntKind.wrap .i64 ((IntKind.wrap .i64 (b-a))+(1))) (2))))))),(4,(intA b)),(8,(intA a)),(9,(intA b)),(10,(boolA (decide (a<b)))),(11,(intA a)),(12,(intA b)),(13,(intA a)),(14,(intA (IntKind.wrap .i64 (b-a)))),(15,(intA (IntKind.wrap .i64 ((IntKind.wrap .i64 (b-a))+(1))))),(16,(intA (IntKind.wrap .i64 (Int.tdiv (IntKind.wrap .i64 ((IntKind.wrap .i64 (b-a))+(1))) (2))))),(17,(intA (IntKind.wrap .i64 (a+(IntKind.wrap .i64 (Int.tdiv (IntKind.wrap .i64 ((IntKind.wrap .i64 (b-a))+(1))) (2))))))),(5,(intA (IntKind.wrap .i64 (a+(IntKind.wrap .i64 (Int.tdiv (IntKind.wrap .i64 ((IntKind.wrap .i64 (b-a))+(1))) (2))))))),(18,(intA (IntKind.wrap .i64 (a+(IntKind.wrap .i64 (Int.tdiv (IntKind.wrap .i64 ((IntKind.wrap .i64 (b-a))+(1))) (2))))))),(19,(intA (IntKind.wrap .i64 (a+(IntKind.wrap .i64 (Int.tdiv (IntKind.wrap .i64 ((IntKind.wrap .i64 (b-a))+(1))) (2))))))),(20,(intA (IntKind.wrap .i64 ((IntKind.wrap .i64 (a+(IntKind.wrap .i64 (Int.tdiv (IntKind.wrap .i64 ((IntKind.wrap .i64 (b-a))+(1))) (2)))))*(IntKind.wrap .i64 (a+(IntKind.wrap .i64 (Int.tdiv (IntKind.wrap .i64 ((IntKind.wrap .i64 (b-a))+(1))) (2))))))))),(21,(intA c)),(22,(boolA (decide ((IntKind.wrap .i64 ((IntKind.wrap .i64 (a+(IntKind.wrap .i64 (Int.tdiv (IntKind.wrap .i64 ((IntKind.wrap .i64 (b-a))+(1))) (2)))))*(IntKind.wrap .i64 (a+(IntKind.wrap .i64 (Int.tdiv (IntKind.wrap .i64 ((IntKind.wrap .i64 (b-a))+(1))) (2)))))))≤c)))),(23,(intA (IntKind.wrap .i64 (a+(IntKind.wrap .i64 (Int.tdiv (IntKind.wrap .i64 ((IntKind.wrap .i64 (b-a))+(1))) (2)))))))],m,100018⟩) else (
N0 ⟨[(0,(intA c)),(2,(intA d)),(3,(intA a)),(4,(intA (IntKind.wrap .i64 ((IntKind.wrap .i64 (a+(IntKind.wrap .i64 (Int.tdiv (IntKind.wrap .i64 ((IntKind.wrap .i64 (b-a))+(1))) (2)))))-(1))))),(8,(intA a)),(9,(intA b)),(10,(boolA (decide (a<b)))),(11,(intA a)),(12,(intA b)),(13,(intA a)),(14,(intA (IntKind.wrap .i64 (b-a)))),(15,(intA (IntKind.wrap .i64 ((IntKind.wrap .i64 (b-a))+(1))))),(16,(intA (IntKind.wrap .i64 (Int.tdiv (IntKind.wrap .i64 ((IntKind.wrap .i64 (b-a))+(1))) (2))))),(17,(intA (IntKind.wrap .i64 (a+(IntKind.wrap .i64 (Int.tdiv (IntKind.wrap .i64 ((IntKind.wrap .i64 (b-a))+(1))) (2))))))),(5,(intA (IntKind.wrap .i64 (a+(IntKind.wrap .i64 (Int.tdiv (IntKind.wrap .i64 ((IntKind.wrap .i64 (b-a))+(1))) (2))))))),(18,(intA (IntKind.wrap .i64 (a+(IntKind.wrap .i64 (Int.tdiv (IntKind.wrap .i64 ((IntKind.wrap .i64 (b-a))+(1))) (2))))))),(19,(intA (IntKind.wrap .i64 (a+(IntKind.wrap .i64 (Int.tdiv (IntKind.wrap .i64 ((IntKind.wrap .i64 (b-a))+(1))) (2))))))),(20,(intA (IntKind.wrap .i64 ((IntKind.wrap .i64 (a+(IntKind.wrap .i64 (Int.tdiv (IntKind.wrap .i64 ((IntKind.wrap .i64 (b-a))+(1))) (2)))))*(IntKind.wrap .i64 (a+(IntKind.wrap .i64 (Int.tdiv (IntKind.wrap .i64 ((IntKind.wrap .i64 (b-a))+(1))) (2))))))))),(21,(intA c)),(22,(boolA (decide ((IntKind.wrap .i64 ((IntKind.wrap .i64 (a+(IntKind.wrap .i64 (Int.tdiv (IntKind.wrap .i64 ((IntKind.wrap .i64 (b-a))+(1))) (2)))))*(IntKind.wrap .i64 (a+(IntKind.wrap .i64 (Int.tdiv (IntKind.wrap .i64 ((IntKind.wrap .i64 (b-a))+(1))) (2)))))))≤c)))),(24,(intA (IntKind.wrap .i64 (a+(IntKind.wrap .i64 (Int.tdiv (IntKind.wrap .i64 ((IntKind.wrap .i64 (b-a))+(1))) (2))))))),(25,(intA (IntKind.wrap .i64 ((IntKind.wrap .i64 (a+(IntKind.wrap .i64 (Int.tdiv (IntKind.wrap .i64 ((IntKind.wrap .i64 (b-a))+(1))) (2)))))-(1)))))],m,100019⟩)) else (
retL R m [some (intA a)])
theorem B278_0_eq (a b c d:Int) (m:Mem) (R:AV→Mem→Prop) (N0:St→Prop):W pg KK 27 0 c278_0 (h278_0 a b c d m) (qq278_0 R N0)=B278_0 a b c d m R N0:=by kernel_rfl
theorem L278_0 (R:AV→Mem→Prop) {σ:Type} (I:σ→Prop) (a b c d:σ→Int) (m:σ→Mem) (μ:σ→Nat) (step:∀x,I x→B278_0 (a x) (b x) (c x) (d x) (m x) R (fun s'=>∃y,I y∧μ y<μ x∧Weak KK 27 0 s' (h278_0 (a y) (b y) (c y) (d y) (m y)))) (x:σ) (hx:I x) {s:St} (hw:Weak KK 27 0 s (h278_0 (a x) (b x) (c x) (d x) (m x))):Tri pg KK 27 0 (.loop c278_0) s (q278_0 R):=
 Tri.weak hw (Tri.loops fol I (fun x=>h278_0 (a x) (b x) (c x) (d x) (m x)) μ (fun x hx=>(B278_0_eq (a x) (b x) (c x) (d x) (m x) R _).mpr (step x hx)) x hx)
noncomputable def F278 (a:Int) (R:AV→Mem→Prop):Prop:=
bif (decide (a≤(0))) then (
retL R [] [some (intA (0))]) else (
Tri pg KK 27 0 (.loop c278_0) ⟨[(0,(intA a)),(2,(intA (0))),(6,(intA a)),(7,(boolA (decide (a≤(0))))),(3,(intA (0))),(4,(intA (3037000499)))],[],5⟩ (q278_0 R))
theorem F278_own (a:Int) (R:AV→Mem→Prop) (h:F278 a R):Own pg KK.gl 278 [intA a] R:=own_of_F fol Tryz.func278 (code:=c278) krE krE krE (X:=F278 a R) krE h
/- skyway/plane.Distance -/
noncomputable def c215:Code:=((Tryz.f215).body).getD .skip
noncomputable def q215 (R:AV→Mem→Prop):AExit→St→Prop:=retQ pg Tryz.f215 R
noncomputable def F215 (b c d e:Int) (R:AV→Mem→Prop):Prop:=
callQ pg KK.gl ((1,some ⟨[intA d,intA e],38⟩)::(0,some ⟨[intA b,intA c],38⟩)::[]) 277 [AV.agg [intA b,intA c],AV.agg [intA d,intA e]] fun g=>
ex_i64 g fun f=>
callQ pg KK.gl ((1,some ⟨[intA d,intA e],38⟩)::(0,some ⟨[intA b,intA c],38⟩)::[]) 278 [intA f] fun h=>
ex_i64 h fun a=>
bif (decide ((IntKind.wrap .i64 (a*a))<f)) then (
retL R ((1,some ⟨[intA d,intA e],38⟩)::(0,some ⟨[intA b,intA c],38⟩)::[]) [some (intA a),some (intA (IntKind.wrap .i64 (a+(1))))]) else (
retL R ((1,some ⟨[intA d,intA e],38⟩)::(0,some ⟨[intA b,intA c],38⟩)::[]) [some (intA a),some (intA a)])
theorem F215_own (a b c d:Int) (R:AV→Mem→Prop) (h:F215 a b c d R):Own pg KK.gl 215 [AV.agg [intA a,intA b],AV.agg [intA c,intA d]] R:=own_of_F fol Tryz.func215 (code:=c215) krE krE krE (X:=F215 a b c d R) krE h
/- skyway/probe.separated -/
noncomputable def c217:Code:=((Tryz.f217).body).getD .skip
noncomputable def q217 (R:AV→Mem→Prop):AExit→St→Prop:=retQ pg Tryz.f217 R
noncomputable def F217 (m c d a e f n g h b i j k l:Int) (R:AV→Mem→Prop):Prop:=
callQ pg KK.gl ((2,some ⟨[intA k,intA l],78⟩)::(1,some ⟨[intA n,intA g,intA h,intA b,intA i,intA j],129⟩)::(0,some ⟨[intA m,intA c,intA d,intA a,intA e,intA f],129⟩)::[]) 215 [AV.agg [intA c,intA d],AV.agg [intA g,intA h]] fun o=>
exT2 o fun p q=>
ex_i64 p fun r=>
ex_i64 q fun u=>
bif (decide ((IntKind.wrap .i64 ((IntKind.wrap .i64 (r-e))-i))≥k)) then (
retL R ((2,some ⟨[intA k,intA l],78⟩)::(1,some ⟨[intA n,intA g,intA h,intA b,intA i,intA j],129⟩)::(0,some ⟨[intA m,intA c,intA d,intA a,intA e,intA f],129⟩)::[]) [some (boolA true)]) else (
opP (opA pg (.call ⟨.builtin .max,#[.tmp 0,.tmp 1],#[3,3]⟩) 3 [intA (IntKind.wrap .i64 (a-b)),intA (IntKind.wrap .i64 (b-a))] (mget ((2,some ⟨[intA k,intA l],78⟩)::(1,some ⟨[intA n,intA g,intA h,intA b,intA i,intA j],129⟩)::(0,some ⟨[intA m,intA c,intA d,intA a,intA e,intA f],129⟩)::[])) 104) fun s=>
ex_i64 s fun t=>
retL R ((2,some ⟨[intA k,intA l],78⟩)::(1,some ⟨[intA n,intA g,intA h,intA b,intA i,intA j],129⟩)::(0,some ⟨[intA m,intA c,intA d,intA a,intA e,intA f],129⟩)::[]) [some (boolA (decide ((IntKind.wrap .i64 ((IntKind.wrap .i64 (t-f))-j))≥l)))])
theorem F217_own (a b c d e f g i j k l m n o:Int) (R:AV→Mem→Prop) (h:F217 a b c d e f g i j k l m n o R):Own pg KK.gl 217 [AV.agg [intA a,intA b,intA c,intA d,intA e,intA f],AV.agg [intA g,intA i,intA j,intA k,intA l,intA m],AV.agg [intA n,intA o]] R:=own_of_F fol Tryz.func217 (code:=c217) krE krE krE (X:=F217 a b c d e f g i j k l m n o R) krE h
/- skyway/probe.spans -/
noncomputable def c145:Code:=((Tryz.f145).body).getD .skip
noncomputable def q145 (R:AV→Mem→Prop):AExit→St→Prop:=retQ pg Tryz.f145 R
noncomputable def c145_0:Code:=loopB c145 0
noncomputable def q145_0 (R:AV→Mem→Prop):AExit→St→Prop:=contW pg KK 73 0 c145 0 (q145 R)
noncomputable def qq145_0 (R:AV→Mem→Prop) (N0:St→Prop):AExit→St→Prop:=thenQ N0 (q145_0 R)
def h145_0 (a b c d:AV) (e f g h:Int) (m:Mem):St:=⟨[(0,a),(1,b),(5,(AV.ptr 0 0)),(6,c),(7,d),(9,(intA e)),(10,(intA f))],((0,some ⟨[intA g,intA h],78⟩)::m),100000⟩
noncomputable def B145_0 (v w z p:AV) (u a s t:Int) (m:Mem) (R:AV→Mem→Prop) (N0:St→Prop):Prop:=
bif (decide (a≤u)) then (
callQ pg KK.gl ((0,some ⟨[intA s,intA t],78⟩)::m) 71 [v,intA a] fun v5=>
exT2 v5 fun c6 c7=>
exA6 c6 fun c8 c9 an ao ap aq=>
ex_i64 c8 fun b=>
ex_i64 c9 fun c=>
ex_i64 an fun d=>
ex_i64 ao fun e=>
ex_i64 ap fun f=>
ex_i64 aq fun g=>
ex_i64 c7 fun q=>
callQ pg KK.gl ((100072,some ⟨[intA b,intA c,intA d,intA e,intA f,intA g],129⟩)::(100072,some ⟨[intA (0),intA (0),intA (0),intA (0),intA (0),intA (0)],129⟩)::(0,some ⟨[intA s,intA t],78⟩)::m) 71 [w,intA a] fun ar=>
exT2 ar fun au c23=>
exA6 au fun av aw ax ay az ba=>
ex_i64 av fun h=>
ex_i64 aw fun i=>
ex_i64 ax fun j=>
ex_i64 ay fun k=>
ex_i64 az fun l=>
ex_i64 ba fun n=>
ex_i64 c23 fun r=>
callQ pg KK.gl ((100144,some ⟨[intA h,intA i,intA j,intA k,intA l,intA n],129⟩)::(100144,some ⟨[intA (0),intA (0),intA (0),intA (0),intA (0),intA (0)],129⟩)::(100072,some ⟨[intA b,intA c,intA d,intA e,intA f,intA g],129⟩)::(100072,some ⟨[intA (0),intA (0),intA (0),intA (0),intA (0),intA (0)],129⟩)::(0,some ⟨[intA s,intA t],78⟩)::m) 217 [AV.agg [intA b,intA c,intA d,intA e,intA f,intA g],AV.agg [intA h,intA i,intA j,intA k,intA l,intA n],AV.agg [intA s,intA t]] fun bb=>
exB bb fun y=>
bif y then (
N0 ⟨[(0,v),(1,w),(5,(AV.ptr 0 0)),(6,z),(7,p),(9,(intA u)),(10,(intA (IntKind.wrap .i64 (a+(1))))),(23,(intA a)),(24,(intA u)),(25,(boolA (decide (a≤u)))),(29,v),(30,(intA a)),(31,(AV.tup [AV.agg [intA b,intA c,intA d,intA e,intA f,intA g],intA q])),(28,(AV.tup [AV.agg [intA b,intA c,intA d,intA e,intA f,intA g],intA q])),(32,(AV.agg [intA b,intA c,intA d,intA e,intA f,intA g])),(33,(intA q)),(11,(AV.ptr 100072 0)),(12,(intA q)),(35,w),(36,(intA a)),(37,(AV.tup [AV.agg [intA h,intA i,intA j,intA k,intA l,intA n],intA r])),(34,(AV.tup [AV.agg [intA h,intA i,intA j,intA k,intA l,intA n],intA r])),(38,(AV.agg [intA h,intA i,intA j,intA k,intA l,intA n])),(39,(intA r)),(13,(AV.ptr 100144 0)),(14,(intA r)),(40,(AV.agg [intA b,intA c,intA d,intA e,intA f,intA g])),(41,(AV.agg [intA h,intA i,intA j,intA k,intA l,intA n])),(42,(AV.agg [intA s,intA t])),(43,(boolA y)),(26,(intA a)),(27,(intA (IntKind.wrap .i64 (a+(1)))))],((100144,some ⟨[intA h,intA i,intA j,intA k,intA l,intA n],129⟩)::(100144,some ⟨[intA (0),intA (0),intA (0),intA (0),intA (0),intA (0)],129⟩)::(100072,some ⟨[intA b,intA c,intA d,intA e,intA f,intA g],129⟩)::(100072,some ⟨[intA (0),intA (0),intA (0),intA (0),intA (0),intA (0)],129⟩)::(0,some ⟨[intA s,intA t],78⟩)::m),100217⟩) else (
opP (lenS p) fun bc=>
ex_i64 bc fun o=>
bif (decide (o>(0))) then (
opP (idxS 2 p (intA (IntKind.wrap .i64 (o-(1))))) fun aa=>
opP (fldO 1 aa) fun ab=>
opP (ldS (mget ((100144,some ⟨[intA h,intA i,intA j,intA k,intA l,intA n],129⟩)::(100144,some ⟨[intA (0),intA (0),intA (0),intA (0),intA (0),intA (0)],129⟩)::(100072,some ⟨[intA b,intA c,intA d,intA e,intA f,intA g],129⟩)::(100072,some ⟨[intA (0),intA (0),intA (0),intA (0),intA (0),intA (0)],129⟩)::(0,some ⟨[intA s,intA t],78⟩)::m)) ab) fun bd=>
ex_i64 bd fun x=>
bif (x==a) then (
opP (idxS 2 p (intA (IntKind.wrap .i64 (o-(1))))) fun ad=>
opP (fldO 1 ad) fun ae=>
storeW pg (mget ((100144,some ⟨[intA h,intA i,intA j,intA k,intA l,intA n],129⟩)::(100144,some ⟨[intA (0),intA (0),intA (0),intA (0),intA (0),intA (0)],129⟩)::(100072,some ⟨[intA b,intA c,intA d,intA e,intA f,intA g],129⟩)::(100072,some ⟨[intA (0),intA (0),intA (0),intA (0),intA (0),intA (0)],129⟩)::(0,some ⟨[intA s,intA t],78⟩)::m)) 3 ae (intA (IntKind.wrap .i64 (a+(1)))) fun bg d47=>
N0 ⟨[(0,v),(1,w),(5,(AV.ptr 0 0)),(6,z),(7,p),(9,(intA u)),(10,(intA (IntKind.wrap .i64 (a+(1))))),(23,(intA a)),(24,(intA u)),(25,(boolA (decide (a≤u)))),(29,v),(30,(intA a)),(31,(AV.tup [AV.agg [intA b,intA c,intA d,intA e,intA f,intA g],intA q])),(28,(AV.tup [AV.agg [intA b,intA c,intA d,intA e,intA f,intA g],intA q])),(32,(AV.agg [intA b,intA c,intA d,intA e,intA f,intA g])),(33,(intA q)),(11,(AV.ptr 100072 0)),(12,(intA q)),(35,w),(36,(intA a)),(37,(AV.tup [AV.agg [intA h,intA i,intA j,intA k,intA l,intA n],intA r])),(34,(AV.tup [AV.agg [intA h,intA i,intA j,intA k,intA l,intA n],intA r])),(38,(AV.agg [intA h,intA i,intA j,intA k,intA l,intA n])),(39,(intA r)),(13,(AV.ptr 100144 0)),(14,(intA r)),(40,(AV.agg [intA b,intA c,intA d,intA e,intA f,intA g])),(41,(AV.agg [intA h,intA i,intA j,intA k,intA l,intA n])),(42,(AV.agg [intA s,intA t])),(43,(boolA y)),(44,p),(45,(intA o)),(15,(intA o)),(46,(intA o)),(47,(boolA (decide (o>(0))))),(48,(boolA true)),(49,p),(50,(intA o)),(51,(intA (IntKind.wrap .i64 (o-(1))))),(52,aa),(53,ab),(54,(intA x)),(55,(intA a)),(56,(boolA (x==a))),(57,(boolA (x==a))),(58,p),(59,(intA o)),(60,(intA (IntKind.wrap .i64 (o-(1))))),(61,(intA a)),(62,(intA (IntKind.wrap .i64 (a+(1))))),(63,ad),(64,ae),(26,(intA a)),(27,(intA (IntKind.wrap .i64 (a+(1)))))],mpushs ((100144,some ⟨[intA h,intA i,intA j,intA k,intA l,intA n],129⟩)::(100144,some ⟨[intA (0),intA (0),intA (0),intA (0),intA (0),intA (0)],129⟩)::(100072,some ⟨[intA b,intA c,intA d,intA e,intA f,intA g],129⟩)::(100072,some ⟨[intA (0),intA (0),intA (0),intA (0),intA (0),intA (0)],129⟩)::(0,some ⟨[intA s,intA t],78⟩)::m) d47,100240⟩) else (
opP (bld [intA (0),intA (0)] [(0,1),(1,1)] [(0,(intA a)),(1,(intA (IntKind.wrap .i64 (a+(1)))))]) fun af=>
opN (bsl 100234 25 2 1 [intA (0),intA (0)] [(0,af)]) ((100144,some ⟨[intA h,intA i,intA j,intA k,intA l,intA n],129⟩)::(100144,some ⟨[intA (0),intA (0),intA (0),intA (0),intA (0),intA (0)],129⟩)::(100072,some ⟨[intA b,intA c,intA d,intA e,intA f,intA g],129⟩)::(100072,some ⟨[intA (0),intA (0),intA (0),intA (0),intA (0),intA (0)],129⟩)::(0,some ⟨[intA s,intA t],78⟩)::m) fun ag ah=>
opN (app (mget ah) 25 2 16 [intA (0),intA (0)] 100235 p ag) ah fun ai be=>
N0 ⟨[(0,v),(1,w),(5,(AV.ptr 0 0)),(6,z),(7,ai),(9,(intA u)),(10,(intA (IntKind.wrap .i64 (a+(1))))),(23,(intA a)),(24,(intA u)),(25,(boolA (decide (a≤u)))),(29,v),(30,(intA a)),(31,(AV.tup [AV.agg [intA b,intA c,intA d,intA e,intA f,intA g],intA q])),(28,(AV.tup [AV.agg [intA b,intA c,intA d,intA e,intA f,intA g],intA q])),(32,(AV.agg [intA b,intA c,intA d,intA e,intA f,intA g])),(33,(intA q)),(11,(AV.ptr 100072 0)),(12,(intA q)),(35,w),(36,(intA a)),(37,(AV.tup [AV.agg [intA h,intA i,intA j,intA k,intA l,intA n],intA r])),(34,(AV.tup [AV.agg [intA h,intA i,intA j,intA k,intA l,intA n],intA r])),(38,(AV.agg [intA h,intA i,intA j,intA k,intA l,intA n])),(39,(intA r)),(13,(AV.ptr 100144 0)),(14,(intA r)),(40,(AV.agg [intA b,intA c,intA d,intA e,intA f,intA g])),(41,(AV.agg [intA h,intA i,intA j,intA k,intA l,intA n])),(42,(AV.agg [intA s,intA t])),(43,(boolA y)),(44,p),(45,(intA o)),(15,(intA o)),(46,(intA o)),(47,(boolA (decide (o>(0))))),(48,(boolA true)),(49,p),(50,(intA o)),(51,(intA (IntKind.wrap .i64 (o-(1))))),(52,aa),(53,ab),(54,(intA x)),(55,(intA a)),(56,(boolA (x==a))),(57,(boolA (x==a))),(65,p),(66,(intA a)),(67,(intA a)),(68,(intA (IntKind.wrap .i64 (a+(1))))),(69,af),(70,ag),(71,ai),(26,(intA a)),(27,(intA (IntKind.wrap .i64 (a+(1)))))],be,100240⟩)) else (
opP (bld [intA (0),intA (0)] [(0,1),(1,1)] [(0,(intA a)),(1,(intA (IntKind.wrap .i64 (a+(1)))))]) fun aj=>
opN (bsl 100226 25 2 1 [intA (0),intA (0)] [(0,aj)]) ((100144,some ⟨[intA h,intA i,intA j,intA k,intA l,intA n],129⟩)::(100144,some ⟨[intA (0),intA (0),intA (0),intA (0),intA (0),intA (0)],129⟩)::(100072,some ⟨[intA b,intA c,intA d,intA e,intA f,intA g],129⟩)::(100072,some ⟨[intA (0),intA (0),intA (0),intA (0),intA (0),intA (0)],129⟩)::(0,some ⟨[intA s,intA t],78⟩)::m) fun ak al=>
opN (app (mget al) 25 2 16 [intA (0),intA (0)] 100227 p ak) al fun am bf=>
N0 ⟨[(0,v),(1,w),(5,(AV.ptr 0 0)),(6,z),(7,am),(9,(intA u)),(10,(intA (IntKind.wrap .i64 (a+(1))))),(23,(intA a)),(24,(intA u)),(25,(boolA (decide (a≤u)))),(29,v),(30,(intA a)),(31,(AV.tup [AV.agg [intA b,intA c,intA d,intA e,intA f,intA g],intA q])),(28,(AV.tup [AV.agg [intA b,intA c,intA d,intA e,intA f,intA g],intA q])),(32,(AV.agg [intA b,intA c,intA d,intA e,intA f,intA g])),(33,(intA q)),(11,(AV.ptr 100072 0)),(12,(intA q)),(35,w),(36,(intA a)),(37,(AV.tup [AV.agg [intA h,intA i,intA j,intA k,intA l,intA n],intA r])),(34,(AV.tup [AV.agg [intA h,intA i,intA j,intA k,intA l,intA n],intA r])),(38,(AV.agg [intA h,intA i,intA j,intA k,intA l,intA n])),(39,(intA r)),(13,(AV.ptr 100144 0)),(14,(intA r)),(40,(AV.agg [intA b,intA c,intA d,intA e,intA f,intA g])),(41,(AV.agg [intA h,intA i,intA j,intA k,intA l,intA n])),(42,(AV.agg [intA s,intA t])),(43,(boolA y)),(44,p),(45,(intA o)),(15,(intA o)),(46,(intA o)),(47,(boolA (decide (o>(0))))),(48,(boolA false)),(49,(AV.tup [])),(50,(AV.tup [])),(51,(AV.tup [])),(52,(AV.tup [])),(53,(AV.tup [])),(54,(AV.tup [])),(55,(AV.tup [])),(56,(AV.tup [])),(57,(boolA false)),(65,p),(66,(intA a)),(67,(intA a)),(68,(intA (IntKind.wrap .i64 (a+(1))))),(69,aj),(70,ak),(71,am),(26,(intA a)),(27,(intA (IntKind.wrap .i64 (a+(1)))))],bf,100232⟩))) else (
retL R ((0,some ⟨[intA s,intA t],78⟩)::m) [some p])
theorem B145_0_eq (a b c d:AV) (e f g h:Int) (m:Mem) (R:AV→Mem→Prop) (N0:St→Prop):W pg KK 73 0 c145_0 (h145_0 a b c d e f g h m) (qq145_0 R N0)=B145_0 a b c d e f g h m R N0:=by kernel_rfl
theorem L145_0 (R:AV→Mem→Prop) {σ:Type} (I:σ→Prop) (a b c d:σ→AV) (e f g h:σ→Int) (m:σ→Mem) (μ:σ→Nat) (step:∀x,I x→B145_0 (a x) (b x) (c x) (d x) (e x) (f x) (g x) (h x) (m x) R (fun s'=>∃y,I y∧μ y<μ x∧Weak KK 73 0 s' (h145_0 (a y) (b y) (c y) (d y) (e y) (f y) (g y) (h y) (m y)))) (x:σ) (hx:I x) {s:St} (hw:Weak KK 73 0 s (h145_0 (a x) (b x) (c x) (d x) (e x) (f x) (g x) (h x) (m x))):Tri pg KK 73 0 (.loop c145_0) s (q145_0 R):=
 Tri.weak hw (Tri.loops fol I (fun x=>h145_0 (a x) (b x) (c x) (d x) (e x) (f x) (g x) (h x) (m x)) μ (fun x hx=>(B145_0_eq (a x) (b x) (c x) (d x) (e x) (f x) (g x) (h x) (m x) R _).mpr (step x hx)) x hx)
noncomputable def F145 (c d:AV) (e f:Int) (R:AV→Mem→Prop):Prop:=
callQ pg KK.gl ((0,some ⟨[intA e,intA f],78⟩)::[]) 216 [c,d] fun g=>
exT2 g fun h i=>
ex_i64 h fun a=>
ex_i64 i fun b=>
Tri pg KK 73 0 (.loop c145_0) ⟨[(0,c),(1,d),(2,(AV.agg [intA e,intA f])),(5,(AV.ptr 0 0)),(6,AV.nils),(7,AV.nils),(17,c),(18,d),(19,(AV.tup [intA a,intA b])),(16,(AV.tup [intA a,intA b])),(20,(intA a)),(21,(intA b)),(8,(intA a)),(9,(intA b)),(22,(intA a)),(10,(intA a))],((0,some ⟨[intA e,intA f],78⟩)::[]),76⟩ (q145_0 R)
theorem F145_own (a b:AV) (c d:Int) (R:AV→Mem→Prop) (h:F145 a b c d R):Own pg KK.gl 145 [a,b,AV.agg [intA c,intA d]] R:=own_of_F fol Tryz.func145 (code:=c145) krE krE krE (X:=F145 a b c d R) krE h
/- skyway/probe.Pair -/
noncomputable def c74:Code:=((Tryz.f74).body).getD .skip
noncomputable def q74 (R:AV→Mem→Prop):AExit→St→Prop:=retQ pg Tryz.f74 R
noncomputable def F74 (b c:AV) (d e:Int) (R:AV→Mem→Prop):Prop:=
opN (bsl 6 34 1 2 [AV.nils] [(0,b),(1,c)]) ((0,some ⟨[intA d,intA e],78⟩)::[]) fun g a=>
callQ pg KK.gl a 144 [AV.agg [intA d,intA e],g] fun h=>
ex_i64 h fun f=>
bif (f !=(0)) then (
retL R a [some AV.nils,some (intA f)]) else (
opP (ldA (mget a) 2 (AV.ptr 0 0)) fun i=>
exA2 i fun j c5=>
ex_i64 j fun k=>
ex_i64 c5 fun l=>
callQ pg KK.gl a 145 [b,c,AV.agg [intA k,intA l]] fun m=>
retL R a [some m,some (intA (0))])
theorem F74_own (a b:AV) (c d:Int) (R:AV→Mem→Prop) (h:F74 a b c d R):Own pg KK.gl 74 [a,b,AV.agg [intA c,intA d]] R:=own_of_F fol Tryz.func74 (code:=c74) krE krE krE (X:=F74 a b c d R) krE h
/- skyway/probe.First -/
noncomputable def c23:Code:=((Tryz.f23).body).getD .skip
noncomputable def q23 (R:AV→Mem→Prop):AExit→St→Prop:=retQ pg Tryz.f23 R
noncomputable def F23 (e f:AV) (a b:Int) (R:AV→Mem→Prop):Prop:=
callQ pg KK.gl ((0,some ⟨[intA a,intA b],78⟩)::[]) 74 [e,f,AV.agg [intA a,intA b]] fun g=>
exT2 g fun c h=>
ex_i64 h fun d=>
bif (d !=(0)) then (
retL R ((0,some ⟨[intA a,intA b],78⟩)::[]) [some (intA (0)),some (intA d)]) else (
opP (lenS c) fun i=>
ex_i64 i fun j=>
bif (j==(0)) then (
retL R ((0,some ⟨[intA a,intA b],78⟩)::[]) [some (intA (0)),some (intA (8))]) else (
opP (idxS 2 c (intA (0))) fun k=>
opP (fldO 0 k) fun l=>
opP (ldS (mget ((0,some ⟨[intA a,intA b],78⟩)::[])) l) fun m=>
ex_i64 m fun n=>
retL R ((0,some ⟨[intA a,intA b],78⟩)::[]) [some (intA n),some (intA (0))]))
theorem F23_own (a b:AV) (c d:Int) (R:AV→Mem→Prop) (h:F23 a b c d R):Own pg KK.gl 23 [a,b,AV.agg [intA c,intA d]] R:=own_of_F fol Tryz.func23 (code:=c23) krE krE krE (X:=F23 a b c d R) krE h
/- skyway/wake.Check -/
noncomputable def c86:Code:=((Tryz.f86).body).getD .skip
noncomputable def q86 (R:AV→Mem→Prop):AExit→St→Prop:=retQ pg Tryz.f86 R
noncomputable def c86_0:Code:=loopB c86 0
noncomputable def q86_0 (R:AV→Mem→Prop):AExit→St→Prop:=contW pg KK 55 0 c86 0 (q86 R)
noncomputable def qq86_0 (R:AV→Mem→Prop) (N0:St→Prop):AExit→St→Prop:=thenQ N0 (q86_0 R)
def h86_0 (a b c d e f g h i j k l n o p q r s t u v w x y z aa ab ad ae af ag ah ai aj:Int) (m:Mem):St:=⟨[(1,(AV.ptr 0 0)),(2,(intA a)),(10,(AV.agg [intA b,intA c,intA d,intA e,intA f,intA g,intA h,intA i,intA j,intA k,intA l,intA n,intA o,intA p,intA q,intA r])),(11,(intA s))],((0,some ⟨[intA t,intA u,intA v,intA w,intA x,intA y,intA z,intA aa,intA ab,intA ad,intA ae,intA af,intA ag,intA ah,intA ai,intA aj],94⟩)::m),100000⟩
noncomputable def c86_0_0:Code:=loopB c86_0 0
noncomputable def q86_0_0 (R:AV→Mem→Prop) (N0:St→Prop):AExit→St→Prop:=contW pg KK 55 0 c86_0 0 (qq86_0 R N0)
noncomputable def qq86_0_0 (R:AV→Mem→Prop) (N0 N1:St→Prop):AExit→St→Prop:=thenQ N1 (q86_0_0 R N0)
def h86_0_0 (a b c d e f g h i j k l n o p q r s t u v w x y z aa ab ad ae af ag ah ai aj ak al am an ao:Int) (m:Mem):St:=⟨[(1,(AV.ptr 0 0)),(2,(intA a)),(10,(AV.agg [intA b,intA c,intA d,intA e,intA f,intA g,intA h,intA i,intA j,intA k,intA l,intA n,intA o,intA p,intA q,intA r])),(11,(intA s)),(14,(AV.agg [intA t,intA u,intA v,intA w])),(15,(intA x))],((0,some ⟨[intA y,intA z,intA aa,intA ab,intA ad,intA ae,intA af,intA ag,intA ah,intA ai,intA aj,intA ak,intA al,intA am,intA an,intA ao],94⟩)::m),200000⟩
noncomputable def c86_1:Code:=loopB c86 1
noncomputable def q86_1 (R:AV→Mem→Prop):AExit→St→Prop:=contW pg KK 55 0 c86 1 (q86 R)
noncomputable def qq86_1 (R:AV→Mem→Prop) (N0:St→Prop):AExit→St→Prop:=thenQ N0 (q86_1 R)
def h86_1 (a b c d e f g h i j k l n o p q r s:Int) (m:Mem):St:=⟨[(1,(AV.ptr 0 0)),(2,(intA a)),(26,(intA b))],((0,some ⟨[intA c,intA d,intA e,intA f,intA g,intA h,intA i,intA j,intA k,intA l,intA n,intA o,intA p,intA q,intA r,intA s],94⟩)::m),200000⟩
noncomputable def c86_1_0:Code:=loopB c86_1 0
noncomputable def q86_1_0 (R:AV→Mem→Prop) (N0:St→Prop):AExit→St→Prop:=contW pg KK 55 0 c86_1 0 (qq86_1 R N0)
noncomputable def qq86_1_0 (R:AV→Mem→Prop) (N0 N1:St→Prop):AExit→St→Prop:=thenQ N1 (q86_1_0 R N0)
def h86_1_0 (a b c d e f g h i j k l n o p q r s t u:Int) (m:Mem):St:=⟨[(1,(AV.ptr 0 0)),(2,(intA a)),(7,(intA b)),(26,(intA c)),(29,(intA d))],((0,some ⟨[intA e,intA f,intA g,intA h,intA i,intA j,intA k,intA l,intA n,intA o,intA p,intA q,intA r,intA s,intA t,intA u],94⟩)::m),300000⟩
noncomputable def c86_1_0_0:Code:=loopB c86_1_0 0
noncomputable def q86_1_0_0 (R:AV→Mem→Prop) (N0 N1:St→Prop):AExit→St→Prop:=contW pg KK 55 0 c86_1_0 0 (qq86_1_0 R N0 N1)
noncomputable def qq86_1_0_0 (R:AV→Mem→Prop) (N0 N1 N2:St→Prop):AExit→St→Prop:=thenQ N2 (q86_1_0_0 R N0 N1)
def h86_1_0_0 (a b c d e f g h i j k l n o p q r s t u v w:Int) (m:Mem):St:=⟨[(1,(AV.ptr 0 0)),(2,(intA a)),(7,(intA b)),(8,(intA c)),(26,(intA d)),(29,(intA e)),(32,(intA f))],((0,some ⟨[intA g,intA h,intA i,intA j,intA k,intA l,intA n,intA o,intA p,intA q,intA r,intA s,intA t,intA u,intA v,intA w],94⟩)::m),400000⟩
noncomputable def B86_0 (t2 b c d e f g h i j k l n o p q r a s t u v w x y z aa ab ad ae af ag ah ai:Int) (m:Mem) (R:AV→Mem→Prop) (N0:St→Prop):Prop:=
bif (decide (a<(4))) then (
opP (opA pg (.index 94 (.tmp 0) (.tmp 1)) 92 [AV.agg [intA b,intA c,intA d,intA e,intA f,intA g,intA h,intA i,intA j,intA k,intA l,intA n,intA o,intA p,intA q,intA r],intA a] (mget ((0,some ⟨[intA s,intA t,intA u,intA v,intA w,intA x,intA y,intA z,intA aa,intA ab,intA ad,intA ae,intA af,intA ag,intA ah,intA ai],94⟩)::m)) 100001) fun v0=>
exA4 v0 fun c1 c2 c3 c4=>
ex_i64 c1 fun z5=>
ex_i64 c2 fun z6=>
ex_i64 c3 fun z7=>
ex_i64 c4 fun z8=>
Tri pg KK 55 0 (.loop c86_0_0) ⟨[(1,(AV.ptr 0 0)),(2,(intA t2)),(10,(AV.agg [intA b,intA c,intA d,intA e,intA f,intA g,intA h,intA i,intA j,intA k,intA l,intA n,intA o,intA p,intA q,intA r])),(11,(intA a)),(12,(boolA (decide (a<(4))))),(13,(AV.agg [intA z5,intA z6,intA z7,intA z8])),(4,(AV.ptr 100002 0)),(14,(AV.agg [intA z5,intA z6,intA z7,intA z8])),(15,(intA (0)))],((100002,some ⟨[intA z5,intA z6,intA z7,intA z8],92⟩)::(100002,some ⟨[intA (0),intA (0),intA (0),intA (0)],92⟩)::(0,some ⟨[intA s,intA t,intA u,intA v,intA w,intA x,intA y,intA z,intA aa,intA ab,intA ad,intA ae,intA af,intA ag,intA ah,intA ai],94⟩)::m),100006⟩ (q86_0_0 R N0)) else (
Tri pg KK 55 0 (.loop c86_1) ⟨[(1,(AV.ptr 0 0)),(2,(intA t2)),(10,(AV.agg [intA b,intA c,intA d,intA e,intA f,intA g,intA h,intA i,intA j,intA k,intA l,intA n,intA o,intA p,intA q,intA r])),(11,(intA a)),(12,(boolA (decide (a<(4))))),(26,(intA (0)))],((0,some ⟨[intA s,intA t,intA u,intA v,intA w,intA x,intA y,intA z,intA aa,intA ab,intA ad,intA ae,intA af,intA ag,intA ah,intA ai],94⟩)::m),100002⟩ (q86_1 R))
theorem B86_0_eq (a b c d e f g h i j k l n o p q r s t u v w x y z aa ab ad ae af ag ah ai aj:Int) (m:Mem) (R:AV→Mem→Prop) (N0:St→Prop):W pg KK 55 0 c86_0 (h86_0 a b c d e f g h i j k l n o p q r s t u v w x y z aa ab ad ae af ag ah ai aj m) (qq86_0 R N0)=B86_0 a b c d e f g h i j k l n o p q r s t u v w x y z aa ab ad ae af ag ah ai aj m R N0:=by kernel_rfl
theorem L86_0 (R:AV→Mem→Prop) {σ:Type} (I:σ→Prop) (a b c d e f g h i j k l n o p q r t u v w z aa ab ad ae af ag ah ai aj ak al am:σ→Int) (m:σ→Mem) (μ:σ→Nat) (step:∀x,I x→B86_0 (a x) (b x) (c x) (d x) (e x) (f x) (g x) (h x) (i x) (j x) (k x) (l x) (n x) (o x) (p x) (q x) (r x) (t x) (u x) (v x) (w x) (z x) (aa x) (ab x) (ad x) (ae x) (af x) (ag x) (ah x) (ai x) (aj x) (ak x) (al x) (am x) (m x) R (fun s'=>∃y,I y∧μ y<μ x∧Weak KK 55 0 s' (h86_0 (a y) (b y) (c y) (d y) (e y) (f y) (g y) (h y) (i y) (j y) (k y) (l y) (n y) (o y) (p y) (q y) (r y) (t y) (u y) (v y) (w y) (z y) (aa y) (ab y) (ad y) (ae y) (af y) (ag y) (ah y) (ai y) (aj y) (ak y) (al y) (am y) (m y)))) (x:σ) (hx:I x) {s:St} (hw:Weak KK 55 0 s (h86_0 (a x) (b x) (c x) (d x) (e x) (f x) (g x) (h x) (i x) (j x) (k x) (l x) (n x) (o x) (p x) (q x) (r x) (t x) (u x) (v x) (w x) (z x) (aa x) (ab x) (ad x) (ae x) (af x) (ag x) (ah x) (ai x) (aj x) (ak x) (al x) (am x) (m x))):Tri pg KK 55 0 (.loop c86_0) s (q86_0 R):=
 Tri.weak hw (Tri.loops fol I (fun x=>h86_0 (a x) (b x) (c x) (d x) (e x) (f x) (g x) (h x) (i x) (j x) (k x) (l x) (n x) (o x) (p x) (q x) (r x) (t x) (u x) (v x) (w x) (z x) (aa x) (ab x) (ad x) (ae x) (af x) (ag x) (ah x) (ai x) (aj x) (ak x) (al x) (am x) (m x)) μ (fun x hx=>(B86_0_eq (a x) (b x) (c x) (d x) (e x) (f x) (g x) (h x) (i x) (j x) (k x) (l x) (n x) (o x) (p x) (q x) (r x) (t x) (u x) (v x) (w x) (z x) (aa x) (ab x) (ad x) (ae x) (af x) (ag x) (ah x) (ai x) (aj x) (ak x) (al x) (am x) (m x) R _).mpr (step x hx)) x hx)
noncomputable def B86_0_0 (y z aa ab ad ae af ag ah ai aj ak al am an ao ap t u v w x b c d e f g h i j k l n o p q r s:Int) (m:Mem) (R:AV→Mem→Prop) (N0 N1:St→Prop):Prop:=
bif (decide (b<(4))) then (
opP (opA pg (.index 92 (.tmp 0) (.tmp 1)) 3 [AV.agg [intA u,intA v,intA w,intA x],intA b] (mget ((0,some ⟨[intA c,intA d,intA e,intA f,intA g,intA h,intA i,intA j,intA k,intA l,intA n,intA o,intA p,intA q,intA r,intA s],94⟩)::m)) 200001) fun v9=>
ex_i64 v9 fun a=>
bif (decide (a<(30))) then (
retL R ((0,some ⟨[intA c,intA d,intA e,intA f,intA g,intA h,intA i,intA j,intA k,intA l,intA n,intA o,intA p,intA q,intA r,intA s],94⟩)::m) [some (intA (4))]) else (
bif (decide (a>(600))) then (
retL R ((0,some ⟨[intA c,intA d,intA e,intA f,intA g,intA h,intA i,intA j,intA k,intA l,intA n,intA o,intA p,intA q,intA r,intA s],94⟩)::m) [some (intA (4))]) else (
N1 ⟨[(1,(AV.ptr 0 0)),(2,(intA y)),(10,(AV.agg [intA z,intA aa,intA ab,intA ad,intA ae,intA af,intA ag,intA ah,intA ai,intA aj,intA ak,intA al,intA am,intA an,intA ao,intA ap])),(11,(intA t)),(14,(AV.agg [intA u,intA v,intA w,intA x])),(15,(intA (IntKind.wrap .i64 (b+(1))))),(16,(boolA (decide (b<(4))))),(17,(intA a)),(6,(intA a)),(18,(intA a)),(19,(boolA (decide (a<(30))))),(20,(boolA false)),(21,(intA a)),(22,(boolA (decide (a>(600))))),(23,(boolA (decide (a>(600))))),(24,(intA (IntKind.wrap .i64 (b+(1)))))],((0,some ⟨[intA c,intA d,intA e,intA f,intA g,intA h,intA i,intA j,intA k,intA l,intA n,intA o,intA p,intA q,intA r,intA s],94⟩)::m),200011⟩))) else (
N0 ⟨[(1,(AV.ptr 0 0)),(2,(intA y)),(10,(AV.agg [intA z,intA aa,intA ab,intA ad,intA ae,intA af,intA ag,intA ah,intA ai,intA aj,intA ak,intA al,intA am,intA an,intA ao,intA ap])),(11,(intA (IntKind.wrap .i64 (t+(1))))),(14,(AV.agg [intA u,intA v,intA w,intA x])),(15,(intA b)),(16,(boolA (decide (b<(4))))),(25,(intA (IntKind.wrap .i64 (t+(1)))))],((0,some ⟨[intA c,intA d,intA e,intA f,intA g,intA h,intA i,intA j,intA k,intA l,intA n,intA o,intA p,intA q,intA r,intA s],94⟩)::m),200003⟩)
theorem B86_0_0_eq (a b c d e f g h i j k l n o p q r s t u v w x y z aa ab ad ae af ag ah ai aj ak al am an ao:Int) (m:Mem) (R:AV→Mem→Prop) (N0 N1:St→Prop):W pg KK 55 0 c86_0_0 (h86_0_0 a b c d e f g h i j k l n o p q r s t u v w x y z aa ab ad ae af ag ah ai aj ak al am an ao m) (qq86_0_0 R N0 N1)=B86_0_0 a b c d e f g h i j k l n o p q r s t u v w x y z aa ab ad ae af ag ah ai aj ak al am an ao m R N0 N1:=by kernel_rfl
theorem L86_0_0 (R:AV→Mem→Prop) (N0:St→Prop) {σ:Type} (I:σ→Prop) (a b c d e f g h i j k l n o p q r t u v w z aa ab ad ae af ag ah ai aj ak al am an ao ap aq ar:σ→Int) (m:σ→Mem) (μ:σ→Nat) (step:∀x,I x→B86_0_0 (a x) (b x) (c x) (d x) (e x) (f x) (g x) (h x) (i x) (j x) (k x) (l x) (n x) (o x) (p x) (q x) (r x) (t x) (u x) (v x) (w x) (z x) (aa x) (ab x) (ad x) (ae x) (af x) (ag x) (ah x) (ai x) (aj x) (ak x) (al x) (am x) (an x) (ao x) (ap x) (aq x) (ar x) (m x) R N0 (fun s'=>∃y,I y∧μ y<μ x∧Weak KK 55 0 s' (h86_0_0 (a y) (b y) (c y) (d y) (e y) (f y) (g y) (h y) (i y) (j y) (k y) (l y) (n y) (o y) (p y) (q y) (r y) (t y) (u y) (v y) (w y) (z y) (aa y) (ab y) (ad y) (ae y) (af y) (ag y) (ah y) (ai y) (aj y) (ak y) (al y) (am y) (an y) (ao y) (ap y) (aq y) (ar y) (m y)))) (x:σ) (hx:I x) {s:St} (hw:Weak KK 55 0 s (h86_0_0 (a x) (b x) (c x) (d x) (e x) (f x) (g x) (h x) (i x) (j x) (k x) (l x) (n x) (o x) (p x) (q x) (r x) (t x) (u x) (v x) (w x) (z x) (aa x) (ab x) (ad x) (ae x) (af x) (ag x) (ah x) (ai x) (aj x) (ak x) (al x) (am x) (an x) (ao x) (ap x) (aq x) (ar x) (m x))):Tri pg KK 55 0 (.loop c86_0_0) s (q86_0_0 R N0):=
 Tri.weak hw (Tri.loops fol I (fun x=>h86_0_0 (a x) (b x) (c x) (d x) (e x) (f x) (g x) (h x) (i x) (j x) (k x) (l x) (n x) (o x) (p x) (q x) (r x) (t x) (u x) (v x) (w x) (z x) (aa x) (ab x) (ad x) (ae x) (af x) (ag x) (ah x) (ai x) (aj x) (ak x) (al x) (am x) (an x) (ao x) (ap x) (aq x) (ar x) (m x)) μ (fun x hx=>(B86_0_0_eq (a x) (b x) (c x) (d x) (e x) (f x) (g x) (h x) (i x) (j x) (k x) (l x) (n x) (o x) (p x) (q x) (r x) (t x) (u x) (v x) (w x) (z x) (aa x) (ab x) (ad x) (ae x) (af x) (ag x) (ah x) (ai x) (aj x) (ak x) (al x) (am x) (an x) (ao x) (ap x) (aq x) (ar x) (m x) R N0 _).mpr (step x hx)) x hx)
noncomputable def B86_1 (s a b c d e f g h i j k l n o p q r:Int) (m:Mem) (R:AV→Mem→Prop) (N0:St→Prop):Prop:=
bif (decide (a<(4))) then (
Tri pg KK 55 0 (.loop c86_1_0) ⟨[(1,(AV.ptr 0 0)),(2,(intA s)),(26,(intA a)),(27,(boolA (decide (a<(4))))),(28,(intA a)),(7,(intA a)),(29,(intA (0)))],((0,some ⟨[intA b,intA c,intA d,intA e,intA f,intA g,intA h,intA i,intA j,intA k,intA l,intA n,intA o,intA p,intA q,intA r],94⟩)::m),200004⟩ (q86_1_0 R N0)) else (
retL R ((0,some ⟨[intA b,intA c,intA d,intA e,intA f,intA g,intA h,intA i,intA j,intA k,intA l,intA n,intA o,intA p,intA q,intA r],94⟩)::m) [some (intA (0))])
theorem B86_1_eq (a b c d e f g h i j k l n o p q r s:Int) (m:Mem) (R:AV→Mem→Prop) (N0:St→Prop):W pg KK 55 0 c86_1 (h86_1 a b c d e f g h i j k l n o p q r s m) (qq86_1 R N0)=B86_1 a b c d e f g h i j k l n o p q r s m R N0:=by kernel_rfl
theorem L86_1 (R:AV→Mem→Prop) {σ:Type} (I:σ→Prop) (a b c d e f g h i j k l n o p q r t:σ→Int) (m:σ→Mem) (μ:σ→Nat) (step:∀x,I x→B86_1 (a x) (b x) (c x) (d x) (e x) (f x) (g x) (h x) (i x) (j x) (k x) (l x) (n x) (o x) (p x) (q x) (r x) (t x) (m x) R (fun s'=>∃y,I y∧μ y<μ x∧Weak KK 55 0 s' (h86_1 (a y) (b y) (c y) (d y) (e y) (f y) (g y) (h y) (i y) (j y) (k y) (l y) (n y) (o y) (p y) (q y) (r y) (t y) (m y)))) (x:σ) (hx:I x) {s:St} (hw:Weak KK 55 0 s (h86_1 (a x) (b x) (c x) (d x) (e x) (f x) (g x) (h x) (i x) (j x) (k x) (l x) (n x) (o x) (p x) (q x) (r x) (t x) (m x))):Tri pg KK 55 0 (.loop c86_1) s (q86_1 R):=
 Tri.weak hw (Tri.loops fol I (fun x=>h86_1 (a x) (b x) (c x) (d x) (e x) (f x) (g x) (h x) (i x) (j x) (k x) (l x) (n x) (o x) (p x) (q x) (r x) (t x) (m x)) μ (fun x hx=>(B86_1_eq (a x) (b x) (c x) (d x) (e x) (f x) (g x) (h x) (i x) (j x) (k x) (l x) (n x) (o x) (p x) (q x) (r x) (t x) (m x) R _).mpr (step x hx)) x hx)
noncomputable def B86_1_0 (c d b a e f g h i j k l n o p q r s t u:Int) (m:Mem) (R:AV→Mem→Prop) (N0 N1:St→Prop):Prop:=
bif (decide (a<(4))) then (
Tri pg KK 55 0 (.loop c86_1_0_0) ⟨[(1,(AV.ptr 0 0)),(2,(intA c)),(7,(intA d)),(26,(intA b)),(29,(intA a)),(30,(boolA (decide (a<(4))))),(31,(intA a)),(8,(intA a)),(32,(intA (0)))],((0,some ⟨[intA e,intA f,intA g,intA h,intA i,intA j,intA k,intA l,intA n,intA o,intA p,intA q,intA r,intA s,intA t,intA u],94⟩)::m),300004⟩ (q86_1_0_0 R N0 N1)) else (
N0 ⟨[(1,(AV.ptr 0 0)),(2,(intA c)),(7,(intA d)),(26,(intA (IntKind.wrap .i64 (b+(1))))),(29,(intA a)),(30,(boolA (decide (a<(4))))),(54,(intA (IntKind.wrap .i64 (b+(1)))))],((0,some ⟨[intA e,intA f,intA g,intA h,intA i,intA j,intA k,intA l,intA n,intA o,intA p,intA q,intA r,intA s,intA t,intA u],94⟩)::m),300003⟩)
theorem B86_1_0_eq (a b c d e f g h i j k l n o p q r s t u:Int) (m:Mem) (R:AV→Mem→Prop) (N0 N1:St→Prop):W pg KK 55 0 c86_1_0 (h86_1_0 a b c d e f g h i j k l n o p q r s t u m) (qq86_1_0 R N0 N1)=B86_1_0 a b c d e f g h i j k l n o p q r s t u m R N0 N1:=by kernel_rfl
theorem L86_1_0 (R:AV→Mem→Prop) (N0:St→Prop) {σ:Type} (I:σ→Prop) (a b c d e f g h i j k l n o p q r t u v:σ→Int) (m:σ→Mem) (μ:σ→Nat) (step:∀x,I x→B86_1_0 (a x) (b x) (c x) (d x) (e x) (f x) (g x) (h x) (i x) (j x) (k x) (l x) (n x) (o x) (p x) (q x) (r x) (t x) (u x) (v x) (m x) R N0 (fun s'=>∃y,I y∧μ y<μ x∧Weak KK 55 0 s' (h86_1_0 (a y) (b y) (c y) (d y) (e y) (f y) (g y) (h y) (i y) (j y) (k y) (l y) (n y) (o y) (p y) (q y) (r y) (t y) (u y) (v y) (m y)))) (x:σ) (hx:I x) {s:St} (hw:Weak KK 55 0 s (h86_1_0 (a x) (b x) (c x) (d x) (e x) (f x) (g x) (h x) (i x) (j x) (k x) (l x) (n x) (o x) (p x) (q x) (r x) (t x) (u x) (v x) (m x))):Tri pg KK 55 0 (.loop c86_1_0) s (q86_1_0 R N0):=
 Tri.weak hw (Tri.loops fol I (fun x=>h86_1_0 (a x) (b x) (c x) (d x) (e x) (f x) (g x) (h x) (i x) (j x) (k x) (l x) (n x) (o x) (p x) (q x) (r x) (t x) (u x) (v x) (m x)) μ (fun x hx=>(B86_1_0_eq (a x) (b x) (c x) (d x) (e x) (f x) (g x) (h x) (i x) (j x) (k x) (l x) (n x) (o x) (p x) (q x) (r x) (t x) (u x) (v x) (m x) R N0 _).mpr (step x hx)) x hx)
noncomputable def B86_1_0_0 (y b c z w a d e f g h i j k l n o p q r s t:Int) (m:Mem) (R:AV→Mem→Prop) (N0 N1 N2:St→Prop):Prop:=
bif (decide (a<(4))) then (
opP (idxA 4 4 (AV.ptr 0 0) (intA b)) fun aa=>
opP (idxA 4 1 aa (intA a)) fun ab=>
opP (ldS (mget ((0,some ⟨[intA d,intA e,intA f,intA g,intA h,intA i,intA j,intA k,intA l,intA n,intA o,intA p,intA q,intA r,intA s,intA t],94⟩)::m)) ab) fun ah=>
ex_i64 ah fun x=>
opP (idxA 4 4 (AV.ptr 0 0) (intA b)) fun ad=>
opP (idxA 4 1 ad (intA c)) fun ae=>
opP (ldS (mget ((0,some ⟨[intA d,intA e,intA f,intA g,intA h,intA i,intA j,intA k,intA l,intA n,intA o,intA p,intA q,intA r,intA s,intA t],94⟩)::m)) ae) fun ai=>
ex_i64 ai fun u=>
opP (idxA 4 4 (AV.ptr 0 0) (intA c)) fun af=>
opP (idxA 4 1 af (intA a)) fun ag=>
opP (ldS (mget ((0,some ⟨[intA d,intA e,intA f,intA g,intA h,intA i,intA j,intA k,intA l,intA n,intA o,intA p,intA q,intA r,intA s,intA t],94⟩)::m)) ag) fun aj=>
ex_i64 aj fun v=>
bif (decide (x>(IntKind.wrap .i64 (u+v)))) then (
retL R ((0,some ⟨[intA d,intA e,intA f,intA g,intA h,intA i,intA j,intA k,intA l,intA n,intA o,intA p,intA q,intA r,intA s,intA t],94⟩)::m) [some (intA (3))]) else (
N2 ⟨[(1,(AV.ptr 0 0)),(2,(intA y)),(7,(intA b)),(8,(intA c)),(26,(intA z)),(29,(intA w)),(32,(intA (IntKind.wrap .i64 (a+(1))))),(33,(boolA (decide (a<(4))))),(34,(intA a)),(9,(intA a)),(35,(intA b)),(36,(intA a)),(37,aa),(38,ab),(39,(intA x)),(40,(intA b)),(41,(intA c)),(42,ad),(43,ae),(44,(intA u)),(45,(intA c)),(46,(intA a)),(47,af),(48,ag),(49,(intA v)),(50,(intA (IntKind.wrap .i64 (u+v)))),(51,(boolA (decide (x>(IntKind.wrap .i64 (u+v)))))),(52,(intA (IntKind.wrap .i64 (a+(1)))))],((0,some ⟨[intA d,intA e,intA f,intA g,intA h,intA i,intA j,intA k,intA l,intA n,intA o,intA p,intA q,intA r,intA s,intA t],94⟩)::m),400022⟩)) else (
N1 ⟨[(1,(AV.ptr 0 0)),(2,(intA y)),(7,(intA b)),(8,(intA c)),(26,(intA z)),(29,(intA (IntKind.wrap .i64 (w+(1))))),(32,(intA a)),(33,(boolA (decide (a<(4))))),(53,(intA (IntKind.wrap .i64 (w+(1)))))],((0,some ⟨[intA d,intA e,intA f,intA g,intA h,intA i,intA j,intA k,intA l,intA n,intA o,intA p,intA q,intA r,intA s,intA t],94⟩)::m),400003⟩)
theorem B86_1_0_0_eq (a b c d e f g h i j k l n o p q r s t u v w:Int) (m:Mem) (R:AV→Mem→Prop) (N0 N1 N2:St→Prop):W pg KK 55 0 c86_1_0_0 (h86_1_0_0 a b c d e f g h i j k l n o p q r s t u v w m) (qq86_1_0_0 R N0 N1 N2)=B86_1_0_0 a b c d e f g h i j k l n o p q r s t u v w m R N0 N1 N2:=by kernel_rfl
theorem L86_1_0_0 (R:AV→Mem→Prop) (N0 N1:St→Prop) {σ:Type} (I:σ→Prop) (a b c d e f g h i j k l n o p q r t u v w z:σ→Int) (m:σ→Mem) (μ:σ→Nat) (step:∀x,I x→B86_1_0_0 (a x) (b x) (c x) (d x) (e x) (f x) (g x) (h x) (i x) (j x) (k x) (l x) (n x) (o x) (p x) (q x) (r x) (t x) (u x) (v x) (w x) (z x) (m x) R N0 N1 (fun s'=>∃y,I y∧μ y<μ x∧Weak KK 55 0 s' (h86_1_0_0 (a y) (b y) (c y) (d y) (e y) (f y) (g y) (h y) (i y) (j y) (k y) (l y) (n y) (o y) (p y) (q y) (r y) (t y) (u y) (v y) (w y) (z y) (m y)))) (x:σ) (hx:I x) {s:St} (hw:Weak KK 55 0 s (h86_1_0_0 (a x) (b x) (c x) (d x) (e x) (f x) (g x) (h x) (i x) (j x) (k x) (l x) (n x) (o x) (p x) (q x) (r x) (t x) (u x) (v x) (w x) (z x) (m x))):Tri pg KK 55 0 (.loop c86_1_0_0) s (q86_1_0_0 R N0 N1):=
 Tri.weak hw (Tri.loops fol I (fun x=>h86_1_0_0 (a x) (b x) (c x) (d x) (e x) (f x) (g x) (h x) (i x) (j x) (k x) (l x) (n x) (o x) (p x) (q x) (r x) (t x) (u x) (v x) (w x) (z x) (m x)) μ (fun x hx=>(B86_1_0_0_eq (a x) (b x) (c x) (d x) (e x) (f x) (g x) (h x) (i x) (j x) (k x) (l x) (n x) (o x) (p x) (q x) (r x) (t x) (u x) (v x) (w x) (z x) (m x) R N0 N1 _).mpr (step x hx)) x hx)
noncomputable def F86 (a b c d e f g h i j k l m n o p:Int) (R:AV→Mem→Prop):Prop:=
Tri pg KK 55 0 (.loop c86_0) ⟨[(0,(AV.agg [intA a,intA b,intA c,intA d,intA e,intA f,intA g,intA h,intA i,intA j,intA k,intA l,intA m,intA n,intA o,intA p])),(1,(AV.ptr 0 0)),(2,(intA (0))),(10,(AV.agg [intA a,intA b,intA c,intA d,intA e,intA f,intA g,intA h,intA i,intA j,intA k,intA l,intA m,intA n,intA o,intA p])),(11,(intA (0)))],((0,some ⟨[intA a,intA b,intA c,intA d,intA e,intA f,intA g,intA h,intA i,intA j,intA k,intA l,intA m,intA n,intA o,intA p],94⟩)::[]),4⟩ (q86_0 R)
theorem F86_own (a b c d e f g i j k l m n o p q:Int) (R:AV→Mem→Prop) (h:F86 a b c d e f g i j k l m n o p q R):Own pg KK.gl 86 [AV.agg [intA a,intA b,intA c,intA d,intA e,intA f,intA g,intA i,intA j,intA k,intA l,intA m,intA n,intA o,intA p,intA q]] R:=own_of_F fol Tryz.func86 (code:=c86) krE krE krE (X:=F86 a b c d e f g i j k l m n o p q R) krE h
/- skyway/polygon.next -/
noncomputable def c300:Code:=((Tryz.f300).body).getD .skip
noncomputable def q300 (R:AV→Mem→Prop):AExit→St→Prop:=retQ pg Tryz.f300 R
noncomputable def F300 (a:AV) (d:Int) (R:AV→Mem→Prop):Prop:=
opP (lenS a) fun e=>
ex_i64 e fun f=>
opP (opA pg (.binOp .rem 3 (.tmp 0) (.tmp 1) 3) 3 [intA (IntKind.wrap .i64 (d+(1))),intA f] (mget ((0,some ⟨[intA (0),intA (0)],38⟩)::[])) 6) fun g=>
ex_i64 g fun h=>
opP (idxS 2 a (intA h)) fun i=>
opP (ldA (mget ((0,some ⟨[intA (0),intA (0)],38⟩)::[])) 2 i) fun j=>
exA2 j fun c6 c7=>
ex_i64 c6 fun b=>
ex_i64 c7 fun c=>
retL R ((0,some ⟨[intA b,intA c],38⟩)::(0,some ⟨[intA (0),intA (0)],38⟩)::[]) [some (AV.agg [intA b,intA c])]
theorem F300_own (a:AV) (b:Int) (R:AV→Mem→Prop) (h:F300 a b R):Own pg KK.gl 300 [a,intA b] R:=own_of_F fol Tryz.func300 (code:=c300) krE krE krE (X:=F300 a b R) krE h
/- skyway/plane.Cross -/
noncomputable def c336:Code:=((Tryz.f336).body).getD .skip
noncomputable def q336 (R:AV→Mem→Prop):AExit→St→Prop:=retQ pg Tryz.f336 R
noncomputable def F336 (a b c d:Int) (R:AV→Mem→Prop):Prop:=
retL R ((1,some ⟨[intA c,intA d],38⟩)::(0,some ⟨[intA a,intA b],38⟩)::[]) [some (intA (IntKind.wrap .i64 ((IntKind.wrap .i64 (a*d))-(IntKind.wrap .i64 (b*c)))))]
theorem F336_own (a b c d:Int) (R:AV→Mem→Prop) (h:F336 a b c d R):Own pg KK.gl 336 [AV.agg [intA a,intA b],AV.agg [intA c,intA d]] R:=own_of_F fol Tryz.func336 (code:=c336) krE krE krE (X:=F336 a b c d R) krE h
/- skyway/plane.Turn -/
noncomputable def c299:Code:=((Tryz.f299).body).getD .skip
noncomputable def q299 (R:AV→Mem→Prop):AExit→St→Prop:=retQ pg Tryz.f299 R
noncomputable def F299 (a b c d e f:Int) (R:AV→Mem→Prop):Prop:=
callQ pg KK.gl ((2,some ⟨[intA e,intA f],38⟩)::(1,some ⟨[intA c,intA d],38⟩)::(0,some ⟨[intA a,intA b],38⟩)::[]) 242 [AV.agg [intA c,intA d],AV.agg [intA a,intA b]] fun h=>
exA2 h fun i j=>
ex_i64 i fun k=>
ex_i64 j fun l=>
callQ pg KK.gl ((2,some ⟨[intA e,intA f],38⟩)::(1,some ⟨[intA c,intA d],38⟩)::(0,some ⟨[intA a,intA b],38⟩)::[]) 242 [AV.agg [intA e,intA f],AV.agg [intA a,intA b]] fun m=>
exA2 m fun c6 c7=>
ex_i64 c6 fun n=>
ex_i64 c7 fun o=>
callQ pg KK.gl ((2,some ⟨[intA e,intA f],38⟩)::(1,some ⟨[intA c,intA d],38⟩)::(0,some ⟨[intA a,intA b],38⟩)::[]) 336 [AV.agg [intA k,intA l],AV.agg [intA n,intA o]] fun p=>
ex_i64 p fun g=>
bif (decide (g>(0))) then (
retL R ((2,some ⟨[intA e,intA f],38⟩)::(1,some ⟨[intA c,intA d],38⟩)::(0,some ⟨[intA a,intA b],38⟩)::[]) [some (intA (1))]) else (
bif (decide (g<(0))) then (
retL R ((2,some ⟨[intA e,intA f],38⟩)::(1,some ⟨[intA c,intA d],38⟩)::(0,some ⟨[intA a,intA b],38⟩)::[]) [some (intA (-1))]) else (
retL R ((2,some ⟨[intA e,intA f],38⟩)::(1,some ⟨[intA c,intA d],38⟩)::(0,some ⟨[intA a,intA b],38⟩)::[]) [some (intA (0))]))
theorem F299_own (a b c d e f:Int) (R:AV→Mem→Prop) (h:F299 a b c d e f R):Own pg KK.gl 299 [AV.agg [intA a,intA b],AV.agg [intA c,intA d],AV.agg [intA e,intA f]] R:=own_of_F fol Tryz.func299 (code:=c299) krE krE krE (X:=F299 a b c d e f R) krE h
/- skyway/polygon.between -/
noncomputable def c339:Code:=((Tryz.f339).body).getD .skip
noncomputable def q339 (R:AV→Mem→Prop):AExit→St→Prop:=retQ pg Tryz.f339 R
noncomputable def F339 (a b c d e f:Int) (R:AV→Mem→Prop):Prop:=
opP (opA pg (.call ⟨.builtin .min,#[.tmp 0,.tmp 1],#[3,3]⟩) 3 [intA a,intA c] (mget ((2,some ⟨[intA e,intA f],38⟩)::(1,some ⟨[intA c,intA d],38⟩)::(0,some ⟨[intA a,intA b],38⟩)::[])) 8) fun g=>
ex_i64 g fun h=>
bif (decide (h≤e)) then (
opP (opA pg (.call ⟨.builtin .max,#[.tmp 0,.tmp 1],#[3,3]⟩) 3 [intA a,intA c] (mget ((2,some ⟨[intA e,intA f],38⟩)::(1,some ⟨[intA c,intA d],38⟩)::(0,some ⟨[intA a,intA b],38⟩)::[])) 19) fun i=>
ex_i64 i fun j=>
bif (decide (e≤j)) then (
opP (opA pg (.call ⟨.builtin .min,#[.tmp 0,.tmp 1],#[3,3]⟩) 3 [intA b,intA d] (mget ((2,some ⟨[intA e,intA f],38⟩)::(1,some ⟨[intA c,intA d],38⟩)::(0,some ⟨[intA a,intA b],38⟩)::[])) 27) fun k=>
ex_i64 k fun l=>
bif (decide (l≤f)) then (
opP (opA pg (.call ⟨.builtin .max,#[.tmp 0,.tmp 1],#[3,3]⟩) 3 [intA b,intA d] (mget ((2,some ⟨[intA e,intA f],38⟩)::(1,some ⟨[intA c,intA d],38⟩)::(0,some ⟨[intA a,intA b],38⟩)::[])) 39) fun m=>
ex_i64 m fun n=>
retL R ((2,some ⟨[intA e,intA f],38⟩)::(1,some ⟨[intA c,intA d],38⟩)::(0,some ⟨[intA a,intA b],38⟩)::[]) [some (boolA (decide (f≤n)))]) else (
retL R ((2,some ⟨[intA e,intA f],38⟩)::(1,some ⟨[intA c,intA d],38⟩)::(0,some ⟨[intA a,intA b],38⟩)::[]) [some (boolA false)])) else (
retL R ((2,some ⟨[intA e,intA f],38⟩)::(1,some ⟨[intA c,intA d],38⟩)::(0,some ⟨[intA a,intA b],38⟩)::[]) [some (boolA false)])) else (
retL R ((2,some ⟨[intA e,intA f],38⟩)::(1,some ⟨[intA c,intA d],38⟩)::(0,some ⟨[intA a,intA b],38⟩)::[]) [some (boolA false)])
theorem F339_own (a b c d e f:Int) (R:AV→Mem→Prop) (h:F339 a b c d e f R):Own pg KK.gl 339 [AV.agg [intA a,intA b],AV.agg [intA c,intA d],AV.agg [intA e,intA f]] R:=own_of_F fol Tryz.func339 (code:=c339) krE krE krE (X:=F339 a b c d e f R) krE h
/- skyway/polygon.on -/
noncomputable def c306:Code:=((Tryz.f306).body).getD .skip
noncomputable def q306 (R:AV→Mem→Prop):AExit→St→Prop:=retQ pg Tryz.f306 R
noncomputable def F306 (a b c d e f:Int) (R:AV→Mem→Prop):Prop:=
callQ pg KK.gl ((2,some ⟨[intA e,intA f],38⟩)::(1,some ⟨[intA c,intA d],38⟩)::(0,some ⟨[intA a,intA b],38⟩)::[]) 299 [AV.agg [intA a,intA b],AV.agg [intA c,intA d],AV.agg [intA e,intA f]] fun g=>
ex_i64 g fun h=>
bif (h==(0)) then (
callQ pg KK.gl ((2,some ⟨[intA e,intA f],38⟩)::(1,some ⟨[intA c,intA d],38⟩)::(0,some ⟨[intA a,intA b],38⟩)::[]) 339 [AV.agg [intA a,intA b],AV.agg [intA c,intA d],AV.agg [intA e,intA f]] fun i=>
exB i fun j=>
retL R ((2,some ⟨[intA e,intA f],38⟩)::(1,some ⟨[intA c,intA d],38⟩)::(0,some ⟨[intA a,intA b],38⟩)::[]) [some (boolA j)]) else (
retL R ((2,some ⟨[intA e,intA f],38⟩)::(1,some ⟨[intA c,intA d],38⟩)::(0,some ⟨[intA a,intA b],38⟩)::[]) [some (boolA false)])
theorem F306_own (a b c d e f:Int) (R:AV→Mem→Prop) (h:F306 a b c d e f R):Own pg KK.gl 306 [AV.agg [intA a,intA b],AV.agg [intA c,intA d],AV.agg [intA e,intA f]] R:=own_of_F fol Tryz.func306 (code:=c306) krE krE krE (X:=F306 a b c d e f R) krE h
end Go.Proofs.YtlenkbgeomojnaaGreatDoor
