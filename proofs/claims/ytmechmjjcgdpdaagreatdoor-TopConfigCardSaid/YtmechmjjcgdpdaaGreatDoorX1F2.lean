/- A part. -/
import Derived.Test.YtmechmjjcgdpdaaGreatDoorX1T
set_option linter.unusedVariables false
set_option maxRecDepth 100000
set_option maxHeartbeats 4000000
namespace Go.Proofs.YtmechmjjcgdpdaaGreatDoor
noncomputable def Apt:Code:=((Tryz.f341).body).getD .skip
noncomputable def Aq3 (R:AV→Mem→Prop):A4→St→Prop:=Cr pg Tryz.f341 R
noncomputable def Agw (a b c d e f:Int) (R:AV→Mem→Prop):Prop:=
Bg (Cv pg (.call ⟨.builtin .min,#[.tmp 0,.tmp 1],#[3,3]⟩) 3 [Aa a,Aa c] (Ao ((2,some ⟨[Aa e,Aa f],51⟩)::(1,some ⟨[Aa c,Aa d],51⟩)::(0,some ⟨[Aa a,Aa b],51⟩)::[])) 8) fun g=>
Af g fun h=>
bif (decide (h≤e)) then (
Bg (Cv pg (.call ⟨.builtin .max,#[.tmp 0,.tmp 1],#[3,3]⟩) 3 [Aa a,Aa c] (Ao ((2,some ⟨[Aa e,Aa f],51⟩)::(1,some ⟨[Aa c,Aa d],51⟩)::(0,some ⟨[Aa a,Aa b],51⟩)::[])) 19) fun i=>
Af i fun j=>
bif (decide (e≤j)) then (
Bg (Cv pg (.call ⟨.builtin .min,#[.tmp 0,.tmp 1],#[3,3]⟩) 3 [Aa b,Aa d] (Ao ((2,some ⟨[Aa e,Aa f],51⟩)::(1,some ⟨[Aa c,Aa d],51⟩)::(0,some ⟨[Aa a,Aa b],51⟩)::[])) 27) fun k=>
Af k fun l=>
bif (decide (l≤f)) then (
Bg (Cv pg (.call ⟨.builtin .max,#[.tmp 0,.tmp 1],#[3,3]⟩) 3 [Aa b,Aa d] (Ao ((2,some ⟨[Aa e,Aa f],51⟩)::(1,some ⟨[Aa c,Aa d],51⟩)::(0,some ⟨[Aa a,Aa b],51⟩)::[])) 39) fun m=>
Af m fun n=>
A8 R ((2,some ⟨[Aa e,Aa f],51⟩)::(1,some ⟨[Aa c,Aa d],51⟩)::(0,some ⟨[Aa a,Aa b],51⟩)::[]) [some (Ae (decide (f≤n)))]) else (
A8 R ((2,some ⟨[Aa e,Aa f],51⟩)::(1,some ⟨[Aa c,Aa d],51⟩)::(0,some ⟨[Aa a,Aa b],51⟩)::[]) [some (Ae false)])) else (
A8 R ((2,some ⟨[Aa e,Aa f],51⟩)::(1,some ⟨[Aa c,Aa d],51⟩)::(0,some ⟨[Aa a,Aa b],51⟩)::[]) [some (Ae false)])) else (
A8 R ((2,some ⟨[Aa e,Aa f],51⟩)::(1,some ⟨[Aa c,Aa d],51⟩)::(0,some ⟨[Aa a,Aa b],51⟩)::[]) [some (Ae false)])
theorem wR (a b c d e f:Int) (R:AV→Mem→Prop) (h:Agw a b c d e f R):Own pg KK.gl 341 [AV.agg [Aa a,Aa b],AV.agg [Aa c,Aa d],AV.agg [Aa e,Aa f]] R:=Bc Dl Tryz.func341 (code:=Apt) Bf Bf Bf (X:=Agw a b c d e f R) Bf h
noncomputable def Apz:Code:=((Tryz.f309).body).getD .skip
noncomputable def Aqu (R:AV→Mem→Prop):A4→St→Prop:=Cr pg Tryz.f309 R
noncomputable def Af1 (a b c d e f:Int) (R:AV→Mem→Prop):Prop:=
Bj pg KK.gl ((2,some ⟨[Aa e,Aa f],51⟩)::(1,some ⟨[Aa c,Aa d],51⟩)::(0,some ⟨[Aa a,Aa b],51⟩)::[]) 302 [AV.agg [Aa a,Aa b],AV.agg [Aa c,Aa d],AV.agg [Aa e,Aa f]] fun g=>
Af g fun h=>
bif (h==(0)) then (
Bj pg KK.gl ((2,some ⟨[Aa e,Aa f],51⟩)::(1,some ⟨[Aa c,Aa d],51⟩)::(0,some ⟨[Aa a,Aa b],51⟩)::[]) 341 [AV.agg [Aa a,Aa b],AV.agg [Aa c,Aa d],AV.agg [Aa e,Aa f]] fun i=>
Iv i fun j=>
A8 R ((2,some ⟨[Aa e,Aa f],51⟩)::(1,some ⟨[Aa c,Aa d],51⟩)::(0,some ⟨[Aa a,Aa b],51⟩)::[]) [some (Ae j)]) else (
A8 R ((2,some ⟨[Aa e,Aa f],51⟩)::(1,some ⟨[Aa c,Aa d],51⟩)::(0,some ⟨[Aa a,Aa b],51⟩)::[]) [some (Ae false)])
theorem x4 (a b c d e f:Int) (R:AV→Mem→Prop) (h:Af1 a b c d e f R):Own pg KK.gl 309 [AV.agg [Aa a,Aa b],AV.agg [Aa c,Aa d],AV.agg [Aa e,Aa f]] R:=Bc Dl Tryz.func309 (code:=Apz) Bf Bf Bf (X:=Af1 a b c d e f R) Bf h
noncomputable def Ajc:Code:=((Tryz.f253).body).getD .skip
noncomputable def Aop (R:AV→Mem→Prop):A4→St→Prop:=Cr pg Tryz.f253 R
noncomputable def Yu:Code:=C0 Ajc 0
noncomputable def bS (R:AV→Mem→Prop):A4→St→Prop:=Cy pg KK 65 0 Ajc 0 (Aop R)
noncomputable def Abm (R:AV→Mem→Prop) (N0:St→Prop):A4→St→Prop:=Cz N0 (bS R)
def Rj (a:AV) (b c d e f g:Int) (m:Mem):St:=⟨[(0,a),(3,(AV.ptr 0 0)),(4,(Aa b)),(5,(Aa c)),(11,(Aa d)),(12,(Aa e))],((0,some ⟨[Aa f,Aa g],51⟩)::m),100000⟩
noncomputable def Yt (e:AV) (t4 n f a c d:Int) (m:Mem) (R:AV→Mem→Prop) (N0:St→Prop):Prop:=
bif (decide (a<f)) then (
Gb (Cw 2 e (Aa a)) fun o d2=>
Gb (F2 (Cf (Ac ((0,some ⟨[Aa c,Aa d],51⟩)::m) d2) (A3 o++([]))) 2 o) fun v3 d3=>
Da v3 fun c4 c5=>
Af c4 fun p=>
Af c5 fun q=>
Va pg KK.gl (Ac (Ac ((0,some ⟨[Aa c,Aa d],51⟩)::m) d2) d3) 100009 303 [e,Aa a] fun v8 d8 ft8=>
Da v8 fun c9 Jt=>
Af c9 fun r=>
Af Jt fun s=>
C4 pg (Cf ((100011,some ⟨[Aa (0),Aa (0)],51⟩)::(100010,some ⟨[Aa (0),Aa (0)],51⟩)::(Ac (Ac (Ac ((0,some ⟨[Aa c,Aa d],51⟩)::m) d2) d3) d8)) (A3 (AV.ptr 100010 0)++(A3 (AV.agg [Aa p,Aa q])++([])))) 51 (AV.ptr 100010 0) (AV.agg [Aa p,Aa q]) fun bv d13=>
C4 pg (Cf (Ac ((100011,some ⟨[Aa (0),Aa (0)],51⟩)::(100010,some ⟨[Aa (0),Aa (0)],51⟩)::(Ac (Ac (Ac ((0,some ⟨[Aa c,Aa d],51⟩)::m) d2) d3) d8)) d13) (A3 (AV.ptr 100011 0)++(A3 (AV.agg [Aa r,Aa s])++([])))) 51 (AV.ptr 100011 0) (AV.agg [Aa r,Aa s]) fun bw d14=>
Hv (D5 [0,0,3,7,0,0,48,0,0,511,1023] [⟨[],[]⟩,⟨[],[]⟩,⟨d2,[]⟩,⟨d3,A3 o++([])⟩,⟨[],[]⟩,⟨[],[]⟩,⟨d8,ft8⟩,⟨[(100010,some ⟨[Aa (0),Aa (0)],51⟩)],[]⟩,⟨[(100011,some ⟨[Aa (0),Aa (0)],51⟩)],[]⟩,⟨d13,A3 (AV.ptr 100010 0)++(A3 (AV.agg [Aa p,Aa q])++([]))⟩,⟨d14,A3 (AV.ptr 100011 0)++(A3 (AV.agg [Aa r,Aa s])++([]))⟩]) (Bg (F2 (Ao (Ac (Ac ((100011,some ⟨[Aa (0),Aa (0)],51⟩)::(100010,some ⟨[Aa (0),Aa (0)],51⟩)::(Ac (Ac (Ac ((0,some ⟨[Aa c,Aa d],51⟩)::m) d2) d3) d8)) d13) d14)) 2 (AV.ptr 100010 0)) fun aq=>
Da aq fun gY ar=>
Af gY fun t=>
Af ar fun u=>
Bg (F2 (Ao (Ac (Ac ((100011,some ⟨[Aa (0),Aa (0)],51⟩)::(100010,some ⟨[Aa (0),Aa (0)],51⟩)::(Ac (Ac (Ac ((0,some ⟨[Aa c,Aa d],51⟩)::m) d2) d3) d8)) d13) d14)) 2 (AV.ptr 100011 0)) fun au=>
Da au fun av aw=>
Af av fun v=>
Af aw fun w=>
Bg (F2 (Ao (Ac (Ac ((100011,some ⟨[Aa (0),Aa (0)],51⟩)::(100010,some ⟨[Aa (0),Aa (0)],51⟩)::(Ac (Ac (Ac ((0,some ⟨[Aa c,Aa d],51⟩)::m) d2) d3) d8)) d13) d14)) 2 (AV.ptr 0 0)) fun ax=>
Da ax fun ay az=>
Af ay fun x=>
Af az fun y=>
Bj pg KK.gl (Ac (Ac ((100011,some ⟨[Aa (0),Aa (0)],51⟩)::(100010,some ⟨[Aa (0),Aa (0)],51⟩)::(Ac (Ac (Ac ((0,some ⟨[Aa c,Aa d],51⟩)::m) d2) d3) d8)) d13) d14) 309 [AV.agg [Aa t,Aa u],AV.agg [Aa v,Aa w],AV.agg [Aa x,Aa y]] fun ba=>
Iv ba fun z=>
bif z then (
A8 R (Ac (Ac ((100011,some ⟨[Aa (0),Aa (0)],51⟩)::(100010,some ⟨[Aa (0),Aa (0)],51⟩)::(Ac (Ac (Ac ((0,some ⟨[Aa c,Aa d],51⟩)::m) d2) d3) d8)) d13) d14) [some (Aa (0))]) else (
Bg (Ff (Ao (Ac (Ac ((100011,some ⟨[Aa (0),Aa (0)],51⟩)::(100010,some ⟨[Aa (0),Aa (0)],51⟩)::(Ac (Ac (Ac ((0,some ⟨[Aa c,Aa d],51⟩)::m) d2) d3) d8)) d13) d14)) (AV.ptr 100010 1)) fun bb=>
Af bb fun g=>
Bg (Ff (Ao (Ac (Ac ((100011,some ⟨[Aa (0),Aa (0)],51⟩)::(100010,some ⟨[Aa (0),Aa (0)],51⟩)::(Ac (Ac (Ac ((0,some ⟨[Aa c,Aa d],51⟩)::m) d2) d3) d8)) d13) d14)) (AV.ptr 0 1)) fun bc=>
Af bc fun h=>
Bg (Ff (Ao (Ac (Ac ((100011,some ⟨[Aa (0),Aa (0)],51⟩)::(100010,some ⟨[Aa (0),Aa (0)],51⟩)::(Ac (Ac (Ac ((0,some ⟨[Aa c,Aa d],51⟩)::m) d2) d3) d8)) d13) d14)) (AV.ptr 100011 1)) fun bd=>
Af bd fun i=>
Bg (Ff (Ao (Ac (Ac ((100011,some ⟨[Aa (0),Aa (0)],51⟩)::(100010,some ⟨[Aa (0),Aa (0)],51⟩)::(Ac (Ac (Ac ((0,some ⟨[Aa c,Aa d],51⟩)::m) d2) d3) d8)) d13) d14)) (AV.ptr 0 1)) fun be=>
Af be fun j=>
Bg (Cv pg (.binOp .neq 4 (.tmp 0) (.tmp 1) 4) 4 [Ae (decide (g>h)),Ae (decide (i>j))] (Ao (Ac (Ac ((100011,some ⟨[Aa (0),Aa (0)],51⟩)::(100010,some ⟨[Aa (0),Aa (0)],51⟩)::(Ac (Ac (Ac ((0,some ⟨[Aa c,Aa d],51⟩)::m) d2) d3) d8)) d13) d14)) 100091) fun bf=>
Iv bf fun aa=>
bif aa then (
Bg (F2 (Ao (Ac (Ac ((100011,some ⟨[Aa (0),Aa (0)],51⟩)::(100010,some ⟨[Aa (0),Aa (0)],51⟩)::(Ac (Ac (Ac ((0,some ⟨[Aa c,Aa d],51⟩)::m) d2) d3) d8)) d13) d14)) 2 (AV.ptr 100010 0)) fun bg=>
Da bg fun Nk Tj=>
Af Nk fun ab=>
Af Tj fun ad=>
Bg (F2 (Ao (Ac (Ac ((100011,some ⟨[Aa (0),Aa (0)],51⟩)::(100010,some ⟨[Aa (0),Aa (0)],51⟩)::(Ac (Ac (Ac ((0,some ⟨[Aa c,Aa d],51⟩)::m) d2) d3) d8)) d13) d14)) 2 (AV.ptr 100011 0)) fun bh=>
Da bh fun bi bj=>
Af bi fun ae=>
Af bj fun af=>
Bg (F2 (Ao (Ac (Ac ((100011,some ⟨[Aa (0),Aa (0)],51⟩)::(100010,some ⟨[Aa (0),Aa (0)],51⟩)::(Ac (Ac (Ac ((0,some ⟨[Aa c,Aa d],51⟩)::m) d2) d3) d8)) d13) d14)) 2 (AV.ptr 0 0)) fun bk=>
Da bk fun c53 c54=>
Af c53 fun ag=>
Af c54 fun ah=>
Bj pg KK.gl (Ac (Ac ((100011,some ⟨[Aa (0),Aa (0)],51⟩)::(100010,some ⟨[Aa (0),Aa (0)],51⟩)::(Ac (Ac (Ac ((0,some ⟨[Aa c,Aa d],51⟩)::m) d2) d3) d8)) d13) d14) 302 [AV.agg [Aa ab,Aa ad],AV.agg [Aa ae,Aa af],AV.agg [Aa ag,Aa ah]] fun bl=>
Af bl fun b=>
Bg (Ff (Ao (Ac (Ac ((100011,some ⟨[Aa (0),Aa (0)],51⟩)::(100010,some ⟨[Aa (0),Aa (0)],51⟩)::(Ac (Ac (Ac ((0,some ⟨[Aa c,Aa d],51⟩)::m) d2) d3) d8)) d13) d14)) (AV.ptr 100011 1)) fun bm=>
Af bm fun k=>
Bg (Ff (Ao (Ac (Ac ((100011,some ⟨[Aa (0),Aa (0)],51⟩)::(100010,some ⟨[Aa (0),Aa (0)],51⟩)::(Ac (Ac (Ac ((0,some ⟨[Aa c,Aa d],51⟩)::m) d2) d3) d8)) d13) d14)) (AV.ptr 100010 1)) fun bn=>
Af bn fun l=>
bif (decide (k>l)) then (
bif (decide (b>(0))) then (
Bg (Cv pg (.unOp .neg 3 (.tmp 0)) 3 [Aa n] (Ao (Ac (Ac ((100011,some ⟨[Aa (0),Aa (0)],51⟩)::(100010,some ⟨[Aa (0),Aa (0)],51⟩)::(Ac (Ac (Ac ((0,some ⟨[Aa c,Aa d],51⟩)::m) d2) d3) d8)) d13) d14)) 100172) fun bo=>
Af bo fun an=>
N0 ⟨[(0,e),(3,(AV.ptr 0 0)),(4,(Aa t4)),(5,(Aa an)),(11,(Aa f)),(12,(Aa (IntKind.wrap .i64 (a+(1))))),(13,(Ae (decide (a<f)))),(14,(Aa a)),(6,(Aa a)),(15,e),(16,(Aa a)),(17,o),(18,(AV.agg [Aa p,Aa q])),(19,e),(20,(Aa a)),(21,(AV.agg [Aa r,Aa s])),(7,(AV.ptr 100010 0)),(8,(AV.ptr 100011 0)),(22,(AV.agg [Aa t,Aa u])),(23,(AV.agg [Aa v,Aa w])),(24,(AV.agg [Aa x,Aa y])),(25,(Ae z)),(26,(AV.ptr 100010 1)),(27,(Aa g)),(28,(AV.ptr 0 1)),(29,(Aa h)),(30,(Ae (decide (g>h)))),(31,(AV.ptr 100011 1)),(32,(Aa i)),(33,(AV.ptr 0 1)),(34,(Aa j)),(35,(Ae (decide (i>j)))),(36,(Ae aa)),(37,(AV.agg [Aa ab,Aa ad])),(38,(AV.agg [Aa ae,Aa af])),(39,(AV.agg [Aa ag,Aa ah])),(40,(Aa b)),(9,(Aa b)),(41,(AV.ptr 100011 1)),(42,(Aa k)),(43,(AV.ptr 100010 1)),(44,(Aa l)),(45,(Ae (decide (k>l)))),(46,(Ae true)),(47,(Aa b)),(48,(Ae (decide (b>(0))))),(49,(Ae (decide (b>(0))))),(50,(Ae true)),(51,(AV.Bn [])),(52,(AV.Bn [])),(53,(AV.Bn [])),(54,(AV.Bn [])),(55,(AV.Bn [])),(56,(AV.Bn [])),(57,(AV.Bn [])),(58,(AV.Bn [])),(59,(AV.Bn [])),(60,(Ae true)),(61,(Aa n)),(62,(Aa an)),(63,(Aa (IntKind.wrap .i64 (a+(1)))))],Ac (Ac ((100011,some ⟨[Aa (0),Aa (0)],51⟩)::(100010,some ⟨[Aa (0),Aa (0)],51⟩)::(Ac (Ac (Ac ((0,some ⟨[Aa c,Aa d],51⟩)::m) d2) d3) d8)) d13) d14,100176⟩) else (
Bg (Ff (Ao (Ac (Ac ((100011,some ⟨[Aa (0),Aa (0)],51⟩)::(100010,some ⟨[Aa (0),Aa (0)],51⟩)::(Ac (Ac (Ac ((0,some ⟨[Aa c,Aa d],51⟩)::m) d2) d3) d8)) d13) d14)) (AV.ptr 100011 1)) fun bp=>
Af bp fun ai=>
Bg (Ff (Ao (Ac (Ac ((100011,some ⟨[Aa (0),Aa (0)],51⟩)::(100010,some ⟨[Aa (0),Aa (0)],51⟩)::(Ac (Ac (Ac ((0,some ⟨[Aa c,Aa d],51⟩)::m) d2) d3) d8)) d13) d14)) (AV.ptr 100010 1)) fun bq=>
Af bq fun aj=>
bif (decide (ai<aj)) then (
bif (decide (b<(0))) then (
Bg (Cv pg (.unOp .neg 3 (.tmp 0)) 3 [Aa n] (Ao (Ac (Ac ((100011,some ⟨[Aa (0),Aa (0)],51⟩)::(100010,some ⟨[Aa (0),Aa (0)],51⟩)::(Ac (Ac (Ac ((0,some ⟨[Aa c,Aa d],51⟩)::m) d2) d3) d8)) d13) d14)) 100181) fun br=>
Af br fun ao=>
N0 ⟨[(0,e),(3,(AV.ptr 0 0)),(4,(Aa t4)),(5,(Aa ao)),(11,(Aa f)),(12,(Aa (IntKind.wrap .i64 (a+(1))))),(13,(Ae (decide (a<f)))),(14,(Aa a)),(6,(Aa a)),(15,e),(16,(Aa a)),(17,o),(18,(AV.agg [Aa p,Aa q])),(19,e),(20,(Aa a)),(21,(AV.agg [Aa r,Aa s])),(7,(AV.ptr 100010 0)),(8,(AV.ptr 100011 0)),(22,(AV.agg [Aa t,Aa u])),(23,(AV.agg [Aa v,Aa w])),(24,(AV.agg [Aa x,Aa y])),(25,(Ae z)),(26,(AV.ptr 100010 1)),(27,(Aa g)),(28,(AV.ptr 0 1)),(29,(Aa h)),(30,(Ae (decide (g>h)))),(31,(AV.ptr 100011 1)),(32,(Aa i)),(33,(AV.ptr 0 1)),(34,(Aa j)),(35,(Ae (decide (i>j)))),(36,(Ae aa)),(37,(AV.agg [Aa ab,Aa ad])),(38,(AV.agg [Aa ae,Aa af])),(39,(AV.agg [Aa ag,Aa ah])),(40,(Aa b)),(9,(Aa b)),(41,(AV.ptr 100011 1)),(42,(Aa k)),(43,(AV.ptr 100010 1)),(44,(Aa l)),(45,(Ae (decide (k>l)))),(46,(Ae true)),(47,(Aa b)),(48,(Ae (decide (b>(0))))),(49,(Ae (decide (b>(0))))),(50,(Ae false)),(51,(AV.ptr 100011 1)),(52,(Aa ai)),(53,(AV.ptr 100010 1)),(54,(Aa aj)),(55,(Ae (decide (ai<aj)))),(56,(Ae true)),(57,(Aa b)),(58,(Ae (decide (b<(0))))),(59,(Ae (decide (b<(0))))),(60,(Ae (decide (b<(0))))),(61,(Aa n)),(62,(Aa ao)),(63,(Aa (IntKind.wrap .i64 (a+(1)))))],Ac (Ac ((100011,some ⟨[Aa (0),Aa (0)],51⟩)::(100010,some ⟨[Aa (0),Aa (0)],51⟩)::(Ac (Ac (Ac ((0,some ⟨[Aa c,Aa d],51⟩)::m) d2) d3) d8)) d13) d14,100185⟩) else (
N0 ⟨[(0,e),(3,(AV.ptr 0 0)),(4,(Aa t4)),(5,(Aa n)),(11,(Aa f)),(12,(Aa (IntKind.wrap .i64 (a+(1))))),(13,(Ae (decide (a<f)))),(14,(Aa a)),(6,(Aa a)),(15,e),(16,(Aa a)),(17,o),(18,(AV.agg [Aa p,Aa q])),(19,e),(20,(Aa a)),(21,(AV.agg [Aa r,Aa s])),(7,(AV.ptr 100010 0)),(8,(AV.ptr 100011 0)),(22,(AV.agg [Aa t,Aa u])),(23,(AV.agg [Aa v,Aa w])),(24,(AV.agg [Aa x,Aa y])),(25,(Ae z)),(26,(AV.ptr 100010 1)),(27,(Aa g)),(28,(AV.ptr 0 1)),(29,(Aa h)),(30,(Ae (decide (g>h)))),(31,(AV.ptr 100011 1)),(32,(Aa i)),(33,(AV.ptr 0 1)),(34,(Aa j)),(35,(Ae (decide (i>j)))),(36,(Ae aa)),(37,(AV.agg [Aa ab,Aa ad])),(38,(AV.agg [Aa ae,Aa af])),(39,(AV.agg [Aa ag,Aa ah])),(40,(Aa b)),(9,(Aa b)),(41,(AV.ptr 100011 1)),(42,(Aa k)),(43,(AV.ptr 100010 1)),(44,(Aa l)),(45,(Ae (decide (k>l)))),(46,(Ae true)),(47,(Aa b)),(48,(Ae (decide (b>(0))))),(49,(Ae (decide (b>(0))))),(50,(Ae false)),(51,(AV.ptr 100011 1)),(52,(Aa ai)),(53,(AV.ptr 100010 1)),(54,(Aa aj)),(55,(Ae (decide (ai<aj)))),(56,(Ae true)),(57,(Aa b)),(58,(Ae (decide (b<(0))))),(59,(Ae (decide (b<(0))))),(60,(Ae (decide (b<(0))))),(63,(Aa (IntKind.wrap .i64 (a+(1)))))],Ac (Ac ((100011,some ⟨[Aa (0),Aa (0)],51⟩)::(100010,some ⟨[Aa (0),Aa (0)],51⟩)::(Ac (Ac (Ac ((0,some ⟨[Aa c,Aa d],51⟩)::m) d2) d3) d8)) d13) d14,100182⟩)) else (
N0 ⟨[(0,e),(3,(AV.ptr 0 0)),(4,(Aa t4)),(5,(Aa n)),(11,(Aa f)),(12,(Aa (IntKind.wrap .i64 (a+(1))))),(13,(Ae (decide (a<f)))),(14,(Aa a)),(6,(Aa a)),(15,e),(16,(Aa a)),(17,o),(18,(AV.agg [Aa p,Aa q])),(19,e),(20,(Aa a)),(21,(AV.agg [Aa r,Aa s])),(7,(AV.ptr 100010 0)),(8,(AV.ptr 100011 0)),(22,(AV.agg [Aa t,Aa u])),(23,(AV.agg [Aa v,Aa w])),(24,(AV.agg [Aa x,Aa y])),(25,(Ae z)),(26,(AV.ptr 100010 1)),(27,(Aa g)),(28,(AV.ptr 0 1)),(29,(Aa h)),(30,(Ae (decide (g>h)))),(31,(AV.ptr 100011 1)),(32,(Aa i)),(33,(AV.ptr 0 1)),(34,(Aa j)),(35,(Ae (decide (i>j)))),(36,(Ae aa)),(37,(AV.agg [Aa ab,Aa ad])),(38,(AV.agg [Aa ae,Aa af])),(39,(AV.agg [Aa ag,Aa ah])),(40,(Aa b)),(9,(Aa b)),(41,(AV.ptr 100011 1)),(42,(Aa k)),(43,(AV.ptr 100010 1)),(44,(Aa l)),(45,(Ae (decide (k>l)))),(46,(Ae true)),(47,(Aa b)),(48,(Ae (decide (b>(0))))),(49,(Ae (decide (b>(0))))),(50,(Ae false)),(51,(AV.ptr 100011 1)),(52,(Aa ai)),(53,(AV.ptr 100010 1)),(54,(Aa aj)),(55,(Ae (decide (ai<aj)))),(56,(Ae false)),(57,(AV.Bn [])),(58,(AV.Bn [])),(59,(Ae false)),(60,(Ae false)),(63,(Aa (IntKind.wrap .i64 (a+(1)))))],Ac (Ac ((100011,some ⟨[Aa (0),Aa (0)],51⟩)::(100010,some ⟨[Aa (0),Aa (0)],51⟩)::(Ac (Ac (Ac ((0,some ⟨[Aa c,Aa d],51⟩)::m) d2) d3) d8)) d13) d14,100180⟩))) else (
Bg (Ff (Ao (Ac (Ac ((100011,some ⟨[Aa (0),Aa (0)],51⟩)::(100010,some ⟨[Aa (0),Aa (0)],51⟩)::(Ac (Ac (Ac ((0,some ⟨[Aa c,Aa d],51⟩)::m) d2) d3) d8)) d13) d14)) (AV.ptr 100011 1)) fun bs=>
Af bs fun ak=>
Bg (Ff (Ao (Ac (Ac ((100011,some ⟨[Aa (0),Aa (0)],51⟩)::(100010,some ⟨[Aa (0),Aa (0)],51⟩)::(Ac (Ac (Ac ((0,some ⟨[Aa c,Aa d],51⟩)::m) d2) d3) d8)) d13) d14)) (AV.ptr 100010 1)) fun bt=>
Af bt fun am=>
bif (decide (ak<am)) then (
bif (decide (b<(0))) then (
Bg (Cv pg (.unOp .neg 3 (.tmp 0)) 3 [Aa n] (Ao (Ac (Ac ((100011,some ⟨[Aa (0),Aa (0)],51⟩)::(100010,some ⟨[Aa (0),Aa (0)],51⟩)::(Ac (Ac (Ac ((0,some ⟨[Aa c,Aa d],51⟩)::m) d2) d3) d8)) d13) d14)) 100179) fun bu=>
Af bu fun ap=>
N0 ⟨[(0,e),(3,(AV.ptr 0 0)),(4,(Aa t4)),(5,(Aa ap)),(11,(Aa f)),(12,(Aa (IntKind.wrap .i64 (a+(1))))),(13,(Ae (decide (a<f)))),(14,(Aa a)),(6,(Aa a)),(15,e),(16,(Aa a)),(17,o),(18,(AV.agg [Aa p,Aa q])),(19,e),(20,(Aa a)),(21,(AV.agg [Aa r,Aa s])),(7,(AV.ptr 100010 0)),(8,(AV.ptr 100011 0)),(22,(AV.agg [Aa t,Aa u])),(23,(AV.agg [Aa v,Aa w])),(24,(AV.agg [Aa x,Aa y])),(25,(Ae z)),(26,(AV.ptr 100010 1)),(27,(Aa g)),(28,(AV.ptr 0 1)),(29,(Aa h)),(30,(Ae (decide (g>h)))),(31,(AV.ptr 100011 1)),(32,(Aa i)),(33,(AV.ptr 0 1)),(34,(Aa j)),(35,(Ae (decide (i>j)))),(36,(Ae aa)),(37,(AV.agg [Aa ab,Aa ad])),(38,(AV.agg [Aa ae,Aa af])),(39,(AV.agg [Aa ag,Aa ah])),(40,(Aa b)),(9,(Aa b)),(41,(AV.ptr 100011 1)),(42,(Aa k)),(43,(AV.ptr 100010 1)),(44,(Aa l)),(45,(Ae (decide (k>l)))),(46,(Ae false)),(47,(AV.Bn [])),(48,(AV.Bn [])),(49,(Ae false)),(50,(Ae false)),(51,(AV.ptr 100011 1)),(52,(Aa ak)),(53,(AV.ptr 100010 1)),(54,(Aa am)),(55,(Ae (decide (ak<am)))),(56,(Ae true)),(57,(Aa b)),(58,(Ae (decide (b<(0))))),(59,(Ae (decide (b<(0))))),(60,(Ae (decide (b<(0))))),(61,(Aa n)),(62,(Aa ap)),(63,(Aa (IntKind.wrap .i64 (a+(1)))))],Ac (Ac ((100011,some ⟨[Aa (0),Aa (0)],51⟩)::(100010,some ⟨[Aa (0),Aa (0)],51⟩)::(Ac (Ac (Ac ((0,some ⟨[Aa c,Aa d],51⟩)::m) d2) d3) d8)) d13) d14,100183⟩) else (
N0 ⟨[(0,e),(3,(AV.ptr 0 0)),(4,(Aa t4)),(5,(Aa n)),(11,(Aa f)),(12,(Aa (IntKind.wrap .i64 (a+(1))))),(13,(Ae (decide (a<f)))),(14,(Aa a)),(6,(Aa a)),(15,e),(16,(Aa a)),(17,o),(18,(AV.agg [Aa p,Aa q])),(19,e),(20,(Aa a)),(21,(AV.agg [Aa r,Aa s])),(7,(AV.ptr 100010 0)),(8,(AV.ptr 100011 0)),(22,(AV.agg [Aa t,Aa u])),(23,(AV.agg [Aa v,Aa w])),(24,(AV.agg [Aa x,Aa y])),(25,(Ae z)),(26,(AV.ptr 100010 1)),(27,(Aa g)),(28,(AV.ptr 0 1)),(29,(Aa h)),(30,(Ae (decide (g>h)))),(31,(AV.ptr 100011 1)),(32,(Aa i)),(33,(AV.ptr 0 1)),(34,(Aa j)),(35,(Ae (decide (i>j)))),(36,(Ae aa)),(37,(AV.agg [Aa ab,Aa ad])),(38,(AV.agg [Aa ae,Aa af])),(39,(AV.agg [Aa ag,Aa ah])),(40,(Aa b)),(9,(Aa b)),(41,(AV.ptr 100011 1)),(42,(Aa k)),(43,(AV.ptr 100010 1)),(44,(Aa l)),(45,(Ae (decide (k>l)))),(46,(Ae false)),(47,(AV.Bn [])),(48,(AV.Bn [])),(49,(Ae false)),(50,(Ae false)),(51,(AV.ptr 100011 1)),(52,(Aa ak)),(53,(AV.ptr 100010 1)),(54,(Aa am)),(55,(Ae (decide (ak<am)))),(56,(Ae true)),(57,(Aa b)),(58,(Ae (decide (b<(0))))),(59,(Ae (decide (b<(0))))),(60,(Ae (decide (b<(0))))),(63,(Aa (IntKind.wrap .i64 (a+(1)))))],Ac (Ac ((100011,some ⟨[Aa (0),Aa (0)],51⟩)::(100010,some ⟨[Aa (0),Aa (0)],51⟩)::(Ac (Ac (Ac ((0,some ⟨[Aa c,Aa d],51⟩)::m) d2) d3) d8)) d13) d14,100180⟩)) else (
N0 ⟨[(0,e),(3,(AV.ptr 0 0)),(4,(Aa t4)),(5,(Aa n)),(11,(Aa f)),(12,(Aa (IntKind.wrap .i64 (a+(1))))),(13,(Ae (decide (a<f)))),(14,(Aa a)),(6,(Aa a)),(15,e),(16,(Aa a)),(17,o),(18,(AV.agg [Aa p,Aa q])),(19,e),(20,(Aa a)),(21,(AV.agg [Aa r,Aa s])),(7,(AV.ptr 100010 0)),(8,(AV.ptr 100011 0)),(22,(AV.agg [Aa t,Aa u])),(23,(AV.agg [Aa v,Aa w])),(24,(AV.agg [Aa x,Aa y])),(25,(Ae z)),(26,(AV.ptr 100010 1)),(27,(Aa g)),(28,(AV.ptr 0 1)),(29,(Aa h)),(30,(Ae (decide (g>h)))),(31,(AV.ptr 100011 1)),(32,(Aa i)),(33,(AV.ptr 0 1)),(34,(Aa j)),(35,(Ae (decide (i>j)))),(36,(Ae aa)),(37,(AV.agg [Aa ab,Aa ad])),(38,(AV.agg [Aa ae,Aa af])),(39,(AV.agg [Aa ag,Aa ah])),(40,(Aa b)),(9,(Aa b)),(41,(AV.ptr 100011 1)),(42,(Aa k)),(43,(AV.ptr 100010 1)),(44,(Aa l)),(45,(Ae (decide (k>l)))),(46,(Ae false)),(47,(AV.Bn [])),(48,(AV.Bn [])),(49,(Ae false)),(50,(Ae false)),(51,(AV.ptr 100011 1)),(52,(Aa ak)),(53,(AV.ptr 100010 1)),(54,(Aa am)),(55,(Ae (decide (ak<am)))),(56,(Ae false)),(57,(AV.Bn [])),(58,(AV.Bn [])),(59,(Ae false)),(60,(Ae false)),(63,(Aa (IntKind.wrap .i64 (a+(1)))))],Ac (Ac ((100011,some ⟨[Aa (0),Aa (0)],51⟩)::(100010,some ⟨[Aa (0),Aa (0)],51⟩)::(Ac (Ac (Ac ((0,some ⟨[Aa c,Aa d],51⟩)::m) d2) d3) d8)) d13) d14,100178⟩))) else (
N0 ⟨[(0,e),(3,(AV.ptr 0 0)),(4,(Aa t4)),(5,(Aa n)),(11,(Aa f)),(12,(Aa (IntKind.wrap .i64 (a+(1))))),(13,(Ae (decide (a<f)))),(14,(Aa a)),(6,(Aa a)),(15,e),(16,(Aa a)),(17,o),(18,(AV.agg [Aa p,Aa q])),(19,e),(20,(Aa a)),(21,(AV.agg [Aa r,Aa s])),(7,(AV.ptr 100010 0)),(8,(AV.ptr 100011 0)),(22,(AV.agg [Aa t,Aa u])),(23,(AV.agg [Aa v,Aa w])),(24,(AV.agg [Aa x,Aa y])),(25,(Ae z)),(26,(AV.ptr 100010 1)),(27,(Aa g)),(28,(AV.ptr 0 1)),(29,(Aa h)),(30,(Ae (decide (g>h)))),(31,(AV.ptr 100011 1)),(32,(Aa i)),(33,(AV.ptr 0 1)),(34,(Aa j)),(35,(Ae (decide (i>j)))),(36,(Ae aa)),(63,(Aa (IntKind.wrap .i64 (a+(1)))))],Ac (Ac ((100011,some ⟨[Aa (0),Aa (0)],51⟩)::(100010,some ⟨[Aa (0),Aa (0)],51⟩)::(Ac (Ac (Ac ((0,some ⟨[Aa c,Aa d],51⟩)::m) d2) d3) d8)) d13) d14,100094⟩)))) else (
A8 R ((0,some ⟨[Aa c,Aa d],51⟩)::m) [some (Aa n)])
theorem pF (a:AV) (b c d e f g:Int) (m:Mem) (R:AV→Mem→Prop) (N0:St→Prop):W pg KK 65 0 Yu (Rj a b c d e f g m) (Abm R N0)=Yt a b c d e f g m R N0:=by kernel_rfl
theorem Ajq (R:AV→Mem→Prop) {σ:Type} (I:σ→Prop) (a:σ→AV) (b c d e f g:σ→Int) (m:σ→Mem) (μ:σ→Nat) (step:∀x,I x→Yt (a x) (b x) (c x) (d x) (e x) (f x) (g x) (m x) R (fun s'=>∃y,I y∧μ y<μ x∧Bb KK 65 0 s' (Rj (a y) (b y) (c y) (d y) (e y) (f y) (g y) (m y)))) (x:σ) (hx:I x) {s:St} (hw:Bb KK 65 0 s (Rj (a x) (b x) (c x) (d x) (e x) (f x) (g x) (m x))):Bu pg KK 65 0 (.loop Yu) s (bS R):=
 Bu.Eh hw (Bu.loops Dl I (fun x=>Rj (a x) (b x) (c x) (d x) (e x) (f x) (g x) (m x)) μ (fun x hx=>(pF (a x) (b x) (c x) (d x) (e x) (f x) (g x) (m x) R _).mpr (step x hx)) x hx)
noncomputable def Af7 (a:AV) (b c:Int) (R:AV→Mem→Prop):Prop:=
Bg (Cn a) fun d=>
Af d fun e=>
Bu pg KK 65 0 (.loop Yu) ⟨[(0,a),(1,(AV.agg [Aa b,Aa c])),(3,(AV.ptr 0 0)),(4,(Aa (0))),(5,(Aa (-1))),(10,a),(11,(Aa e)),(12,(Aa (0)))],((0,some ⟨[Aa b,Aa c],51⟩)::[]),6⟩ (bS R)
theorem Aau (a:AV) (b c:Int) (R:AV→Mem→Prop) (h:Af7 a b c R):Own pg KK.gl 253 [a,AV.agg [Aa b,Aa c]] R:=Bc Dl Tryz.func253 (code:=Ajc) Bf Bf Bf (X:=Af7 a b c R) Bf h
noncomputable def Apr:Code:=((Tryz.f201).body).getD .skip
noncomputable def Aq9 (R:AV→Mem→Prop):A4→St→Prop:=Cr pg Tryz.f201 R
noncomputable def Ahd (a:AV) (b c d e f:Int) (R:AV→Mem→Prop):Prop:=
Hv (B7 a)<|bif (decide (f≥b)) then (
bif (decide (f<c)) then (
Bj pg KK.gl ((1,some ⟨[Aa d,Aa e],51⟩)::(0,some ⟨[a,Aa b,Aa c],316⟩)::[]) 253 [a,AV.agg [Aa d,Aa e]] fun g=>
Af g fun h=>
A8 R ((1,some ⟨[Aa d,Aa e],51⟩)::(0,some ⟨[a,Aa b,Aa c],316⟩)::[]) [some (Ae (decide (h≥(0))))]) else (
A8 R ((1,some ⟨[Aa d,Aa e],51⟩)::(0,some ⟨[a,Aa b,Aa c],316⟩)::[]) [some (Ae false)])) else (
A8 R ((1,some ⟨[Aa d,Aa e],51⟩)::(0,some ⟨[a,Aa b,Aa c],316⟩)::[]) [some (Ae false)])
theorem Aaq (a:AV) (b c d e f:Int) (R:AV→Mem→Prop) (h:Ahd a b c d e f R):Own pg KK.gl 201 [AV.agg [a,Aa b,Aa c],AV.agg [Aa d,Aa e],Aa f] R:=Bc Dl Tryz.func201 (code:=Apr) Bf Bf Bf (X:=Ahd a b c d e f R) Bf h
noncomputable def Aps:Code:=((Tryz.f200).body).getD .skip
noncomputable def Aq5 (R:AV→Mem→Prop):A4→St→Prop:=Cr pg Tryz.f200 R
noncomputable def Ace (a:AV) (b c:Int) (d e:AV) (R:AV→Mem→Prop):Prop:=
Hv (B7 a)<|Bg (F2 (Ao ((0,some ⟨[a,Aa b,Aa c],316⟩)::[])) 2 d) fun f=>
Da f fun g h=>
Af g fun i=>
Af h fun j=>
Bg (Ff (Ao ((0,some ⟨[a,Aa b,Aa c],316⟩)::[])) e) fun k=>
Af k fun l=>
Bj pg KK.gl ((0,some ⟨[a,Aa b,Aa c],316⟩)::[]) 201 [AV.agg [a,Aa b,Aa c],AV.agg [Aa i,Aa j],Aa l] fun m=>
Iv m fun n=>
A8 R ((0,some ⟨[a,Aa b,Aa c],316⟩)::[]) [some (Ae n)]
theorem uR (a:AV) (b c:Int) (d e:AV) (R:AV→Mem→Prop) (h:Ace a b c d e R):Own pg KK.gl 200 [AV.agg [a,Aa b,Aa c],d,e] R:=Bc Dl Tryz.func200 (code:=Aps) Bf Bf Bf (X:=Ace a b c d e R) Bf h
noncomputable def Ajy:Code:=((Tryz.f252).body).getD .skip
noncomputable def Apw (R:AV→Mem→Prop):A4→St→Prop:=Cr pg Tryz.f252 R
noncomputable def Zp:Code:=C0 Ajy 0
noncomputable def Zj (R:AV→Mem→Prop):A4→St→Prop:=Cy pg KK 19 0 Ajy 0 (Apw R)
noncomputable def Ae1 (R:AV→Mem→Prop) (N0:St→Prop):A4→St→Prop:=Cz N0 (Zj R)
def Rk (a b:AV) (c d e:Int) (m:Mem):St:=⟨[(0,a),(1,b),(4,(Aa c)),(7,(Aa d)),(8,(Aa e))],m,100000⟩
noncomputable def aK (b c:AV) (k d a:Int) (m:Mem) (R:AV→Mem→Prop) (N0:St→Prop):Prop:=
bif (decide (a<d)) then (
Bg (Cw 3 b (Aa a)) fun f=>
Bg (F2 (Ao m) 3 f) fun o=>
qB o fun g c5 p=>
Af c5 fun h=>
Af p fun i=>
I0 (some c) (some [AV.agg [g,Aa h,Aa i]]) fun f9 l=>bif KK.pm f9 then Bj pg KK.gl m f9 l (fun j=>
Iv j fun e=>
bif e then (
A8 R m [some (Aa a)]) else (
N0 ⟨[(0,b),(1,c),(4,(Aa k)),(7,(Aa d)),(8,(Aa (IntKind.wrap .i64 (a+(1))))),(9,(Ae (decide (a<d)))),(10,(Aa a)),(5,(Aa a)),(11,c),(12,b),(13,(Aa a)),(14,f),(15,(AV.agg [g,Aa h,Aa i])),(16,(Ae e)),(18,(Aa (IntKind.wrap .i64 (a+(1)))))],m,100074⟩)) else Ep pg KK.gl m 100008 f9 l fun j n=>
Iv j fun e=>
bif e then (
A8 R n [some (Aa a)]) else (
N0 ⟨[(0,b),(1,c),(4,(Aa k)),(7,(Aa d)),(8,(Aa (IntKind.wrap .i64 (a+(1))))),(9,(Ae (decide (a<d)))),(10,(Aa a)),(5,(Aa a)),(11,c),(12,b),(13,(Aa a)),(14,f),(15,(AV.agg [g,Aa h,Aa i])),(16,(Ae e)),(18,(Aa (IntKind.wrap .i64 (a+(1)))))],n,100074⟩)) else (
A8 R m [some (Aa (-1))])
theorem sV (a b:AV) (c d e:Int) (m:Mem) (R:AV→Mem→Prop) (N0:St→Prop):W pg KK 19 0 Zp (Rk a b c d e m) (Ae1 R N0)=aK a b c d e m R N0:=by kernel_rfl
theorem Aiz (R:AV→Mem→Prop) {σ:Type} (I:σ→Prop) (a b:σ→AV) (c d e:σ→Int) (m:σ→Mem) (μ:σ→Nat) (step:∀x,I x→aK (a x) (b x) (c x) (d x) (e x) (m x) R (fun s'=>∃y,I y∧μ y<μ x∧Bb KK 19 0 s' (Rk (a y) (b y) (c y) (d y) (e y) (m y)))) (x:σ) (hx:I x) {s:St} (hw:Bb KK 19 0 s (Rk (a x) (b x) (c x) (d x) (e x) (m x))):Bu pg KK 19 0 (.loop Zp) s (Zj R):=
 Bu.Eh hw (Bu.loops Dl I (fun x=>Rk (a x) (b x) (c x) (d x) (e x) (m x)) μ (fun x hx=>(sV (a x) (b x) (c x) (d x) (e x) (m x) R _).mpr (step x hx)) x hx)
noncomputable def Ag5 (a b:AV) (R:AV→Mem→Prop):Prop:=
Bg (Cn a) fun c=>
Af c fun d=>
Bu pg KK 19 0 (.loop Zp) ⟨[(0,a),(1,b),(4,(Aa (0))),(6,a),(7,(Aa d)),(8,(Aa (0)))],[],4⟩ (Zj R)
theorem yZ (a b:AV) (R:AV→Mem→Prop) (h:Ag5 a b R):Own pg KK.gl 252 [a,b] R:=Bc Dl Tryz.func252 (code:=Ajy) Bf Bf Bf (X:=Ag5 a b R) Bf h
noncomputable def Aok:Code:=((Tryz.f199).body).getD .skip
noncomputable def Ar5 (R:AV→Mem→Prop):A4→St→Prop:=Cr pg Tryz.f199 R
noncomputable def Adl (a b:AV) (R:AV→Mem→Prop):Prop:=
Bj pg KK.gl [] 252 [a,b] fun c=>
Af c fun d=>
A8 R [] [some (Ae (decide (d≥(0))))]
theorem yS (a b:AV) (R:AV→Mem→Prop) (h:Adl a b R):Own pg KK.gl 199 [a,b] R:=Bc Dl Tryz.func199 (code:=Aok) Bf Bf Bf (X:=Adl a b R) Bf h
noncomputable def Apb:Code:=((Tryz.f198).body).getD .skip
noncomputable def Arc (R:AV→Mem→Prop):A4→St→Prop:=Cr pg Tryz.f198 R
noncomputable def Afq (b:ByteArray) (a c d:AV) (R:AV→Mem→Prop):Prop:=
Hv (B7 a)<|Bj pg KK.gl ((0,some ⟨[AV.sc (.string b),a],32⟩)::[]) 199 [a,AV.fn 200 [c,d]] fun e=>
Iv e fun f=>
A8 R ((0,some ⟨[AV.sc (.string b),a],32⟩)::[]) [some (Ae f)]
theorem vG (a:ByteArray) (b c d:AV) (R:AV→Mem→Prop) (h:Afq a b c d R):Own pg KK.gl 198 [AV.agg [AV.sc (.string a),b],c,d] R:=Bc Dl Tryz.func198 (code:=Apb) Bf Bf Bf (X:=Afq a b c d R) Bf h
noncomputable def Ak3:Code:=((Tryz.f197).body).getD .skip
noncomputable def Apl (R:AV→Mem→Prop):A4→St→Prop:=Cr pg Tryz.f197 R
noncomputable def Ty:Code:=C0 Ak3 0
noncomputable def Vu (R:AV→Mem→Prop):A4→St→Prop:=Cy pg KK 19 0 Ak3 0 (Apl R)
noncomputable def Adv (R:AV→Mem→Prop) (N0:St→Prop):A4→St→Prop:=Cz N0 (Vu R)
def L0 (a b:AV) (c d e:Int) (m:Mem):St:=⟨[(0,a),(1,b),(4,(Aa c)),(7,(Aa d)),(8,(Aa e))],m,100000⟩
noncomputable def R8 (b c:AV) (h d a:Int) (m:Mem) (R:AV→Mem→Prop) (N0:St→Prop):Prop:=
bif (decide (a<d)) then (
Bg (Cw 2 b (Aa a)) fun f=>
Bg (F2 (Ao m) 2 f) fun k=>
Da k fun l c5=>
Ei l fun s6=>
I0 (some c) (some [AV.agg [AV.sc (.string s6),c5]]) fun f7 i=>bif KK.pm f7 then Bj pg KK.gl m f7 i (fun g=>
Iv g fun e=>
bif e then (
A8 R m [some (Aa a)]) else (
N0 ⟨[(0,b),(1,c),(4,(Aa h)),(7,(Aa d)),(8,(Aa (IntKind.wrap .i64 (a+(1))))),(9,(Ae (decide (a<d)))),(10,(Aa a)),(5,(Aa a)),(11,c),(12,b),(13,(Aa a)),(14,f),(15,(AV.agg [AV.sc (.string s6),c5])),(16,(Ae e)),(18,(Aa (IntKind.wrap .i64 (a+(1)))))],m,100074⟩)) else Ep pg KK.gl m 100008 f7 i fun g j=>
Iv g fun e=>
bif e then (
A8 R j [some (Aa a)]) else (
N0 ⟨[(0,b),(1,c),(4,(Aa h)),(7,(Aa d)),(8,(Aa (IntKind.wrap .i64 (a+(1))))),(9,(Ae (decide (a<d)))),(10,(Aa a)),(5,(Aa a)),(11,c),(12,b),(13,(Aa a)),(14,f),(15,(AV.agg [AV.sc (.string s6),c5])),(16,(Ae e)),(18,(Aa (IntKind.wrap .i64 (a+(1)))))],j,100074⟩)) else (
A8 R m [some (Aa (-1))])
theorem sM (a b:AV) (c d e:Int) (m:Mem) (R:AV→Mem→Prop) (N0:St→Prop):W pg KK 19 0 Ty (L0 a b c d e m) (Adv R N0)=R8 a b c d e m R N0:=by kernel_rfl
theorem xW (R:AV→Mem→Prop) {σ:Type} (I:σ→Prop) (a b:σ→AV) (c d e:σ→Int) (m:σ→Mem) (μ:σ→Nat) (step:∀x,I x→R8 (a x) (b x) (c x) (d x) (e x) (m x) R (fun s'=>∃y,I y∧μ y<μ x∧Bb KK 19 0 s' (L0 (a y) (b y) (c y) (d y) (e y) (m y)))) (x:σ) (hx:I x) {s:St} (hw:Bb KK 19 0 s (L0 (a x) (b x) (c x) (d x) (e x) (m x))):Bu pg KK 19 0 (.loop Ty) s (Vu R):=
 Bu.Eh hw (Bu.loops Dl I (fun x=>L0 (a x) (b x) (c x) (d x) (e x) (m x)) μ (fun x hx=>(sM (a x) (b x) (c x) (d x) (e x) (m x) R _).mpr (step x hx)) x hx)
noncomputable def tS (a b:AV) (R:AV→Mem→Prop):Prop:=
Bg (Cn a) fun c=>
Af c fun d=>
Bu pg KK 19 0 (.loop Ty) ⟨[(0,a),(1,b),(4,(Aa (0))),(6,a),(7,(Aa d)),(8,(Aa (0)))],[],4⟩ (Vu R)
theorem dN (a b:AV) (R:AV→Mem→Prop) (h:tS a b R):Own pg KK.gl 197 [a,b] R:=Bc Dl Tryz.func197 (code:=Ak3) Bf Bf Bf (X:=tS a b R) Bf h
noncomputable def Ap1:Code:=((Tryz.f120).body).getD .skip
noncomputable def Ar9 (R:AV→Mem→Prop):A4→St→Prop:=Cr pg Tryz.f120 R
noncomputable def Adr (d:AV) (a b c:Int) (R:AV→Mem→Prop):Prop:=
Bj pg KK.gl ((1,some ⟨[Aa c],3⟩)::(0,some ⟨[Aa a,Aa b],51⟩)::[]) 197 [d,AV.fn 198 [AV.ptr 0 0,AV.ptr 1 0]] fun e=>
Af e fun f=>
A8 R ((1,some ⟨[Aa c],3⟩)::(0,some ⟨[Aa a,Aa b],51⟩)::[]) [some (Aa f)]
theorem wH (a:AV) (b c d:Int) (R:AV→Mem→Prop) (h:Adr a b c d R):Own pg KK.gl 120 [a,AV.agg [Aa b,Aa c],Aa d] R:=Bc Dl Tryz.func120 (code:=Ap1) Bf Bf Bf (X:=Adr a b c d R) Bf h
noncomputable def Ro:Code:=((Tryz.f192).body).getD .skip
noncomputable def Asa (R:AV→Mem→Prop):A4→St→Prop:=Cr pg Tryz.f192 R
noncomputable def Ab8 (a:ByteArray) (R:AV→Mem→Prop):Prop:=
Bj pg KK.gl [] 43 [AV.sc (.string a)] fun b=>
Iv b fun c=>
A8 R [] [some (Ae c)]
theorem u4 (a:ByteArray) (R:AV→Mem→Prop) (h:Ab8 a R):Own pg KK.gl 192 [AV.sc (.string a)] R:=Bc Dl Tryz.func192 (code:=Ro) Bf Bf Bf (X:=Ab8 a R) Bf h
noncomputable def Apm:Code:=((Tryz.f306).body).getD .skip
noncomputable def Arw (R:AV→Mem→Prop):A4→St→Prop:=Cr pg Tryz.f306 R
noncomputable def Abj (a b c d e f g h:Int) (R:AV→Mem→Prop):Prop:=
Bj pg KK.gl ((3,some ⟨[Aa g,Aa h],51⟩)::(2,some ⟨[Aa e,Aa f],51⟩)::(1,some ⟨[Aa c,Aa d],51⟩)::(0,some ⟨[Aa a,Aa b],51⟩)::[]) 302 [AV.agg [Aa a,Aa b],AV.agg [Aa c,Aa d],AV.agg [Aa e,Aa f]] fun i=>
Af i fun j=>
Bj pg KK.gl ((3,some ⟨[Aa g,Aa h],51⟩)::(2,some ⟨[Aa e,Aa f],51⟩)::(1,some ⟨[Aa c,Aa d],51⟩)::(0,some ⟨[Aa a,Aa b],51⟩)::[]) 302 [AV.agg [Aa a,Aa b],AV.agg [Aa c,Aa d],AV.agg [Aa g,Aa h]] fun k=>
Af k fun l=>
bif (decide ((IntKind.wrap .i64 (j*l))<(0))) then (
Bj pg KK.gl ((3,some ⟨[Aa g,Aa h],51⟩)::(2,some ⟨[Aa e,Aa f],51⟩)::(1,some ⟨[Aa c,Aa d],51⟩)::(0,some ⟨[Aa a,Aa b],51⟩)::[]) 302 [AV.agg [Aa e,Aa f],AV.agg [Aa g,Aa h],AV.agg [Aa a,Aa b]] fun m=>
Af m fun n=>
Bj pg KK.gl ((3,some ⟨[Aa g,Aa h],51⟩)::(2,some ⟨[Aa e,Aa f],51⟩)::(1,some ⟨[Aa c,Aa d],51⟩)::(0,some ⟨[Aa a,Aa b],51⟩)::[]) 302 [AV.agg [Aa e,Aa f],AV.agg [Aa g,Aa h],AV.agg [Aa c,Aa d]] fun o=>
Af o fun p=>
A8 R ((3,some ⟨[Aa g,Aa h],51⟩)::(2,some ⟨[Aa e,Aa f],51⟩)::(1,some ⟨[Aa c,Aa d],51⟩)::(0,some ⟨[Aa a,Aa b],51⟩)::[]) [some (Ae (decide ((IntKind.wrap .i64 (n*p))<(0))))]) else (
A8 R ((3,some ⟨[Aa g,Aa h],51⟩)::(2,some ⟨[Aa e,Aa f],51⟩)::(1,some ⟨[Aa c,Aa d],51⟩)::(0,some ⟨[Aa a,Aa b],51⟩)::[]) [some (Ae false)])
theorem uO (a b c d e f g i:Int) (R:AV→Mem→Prop) (h:Abj a b c d e f g i R):Own pg KK.gl 306 [AV.agg [Aa a,Aa b],AV.agg [Aa c,Aa d],AV.agg [Aa e,Aa f],AV.agg [Aa g,Aa i]] R:=Bc Dl Tryz.func306 (code:=Apm) Bf Bf Bf (X:=Abj a b c d e f g i R) Bf h
noncomputable def Ao5:Code:=((Tryz.f304).body).getD .skip
noncomputable def Aqt (R:AV→Mem→Prop):A4→St→Prop:=Cr pg Tryz.f304 R
noncomputable def Ahf (a b c d e f g h:Int) (R:AV→Mem→Prop):Prop:=
Bj pg KK.gl ((3,some ⟨[Aa g,Aa h],51⟩)::(2,some ⟨[Aa e,Aa f],51⟩)::(1,some ⟨[Aa c,Aa d],51⟩)::(0,some ⟨[Aa a,Aa b],51⟩)::[]) 306 [AV.agg [Aa a,Aa b],AV.agg [Aa c,Aa d],AV.agg [Aa e,Aa f],AV.agg [Aa g,Aa h]] fun i=>
Iv i fun j=>
bif j then (
A8 R ((3,some ⟨[Aa g,Aa h],51⟩)::(2,some ⟨[Aa e,Aa f],51⟩)::(1,some ⟨[Aa c,Aa d],51⟩)::(0,some ⟨[Aa a,Aa b],51⟩)::[]) [some (Ae true)]) else (
Bj pg KK.gl ((3,some ⟨[Aa g,Aa h],51⟩)::(2,some ⟨[Aa e,Aa f],51⟩)::(1,some ⟨[Aa c,Aa d],51⟩)::(0,some ⟨[Aa a,Aa b],51⟩)::[]) 309 [AV.agg [Aa a,Aa b],AV.agg [Aa c,Aa d],AV.agg [Aa e,Aa f]] fun k=>
Iv k fun l=>
bif l then (
A8 R ((3,some ⟨[Aa g,Aa h],51⟩)::(2,some ⟨[Aa e,Aa f],51⟩)::(1,some ⟨[Aa c,Aa d],51⟩)::(0,some ⟨[Aa a,Aa b],51⟩)::[]) [some (Ae true)]) else (
Bj pg KK.gl ((3,some ⟨[Aa g,Aa h],51⟩)::(2,some ⟨[Aa e,Aa f],51⟩)::(1,some ⟨[Aa c,Aa d],51⟩)::(0,some ⟨[Aa a,Aa b],51⟩)::[]) 309 [AV.agg [Aa a,Aa b],AV.agg [Aa c,Aa d],AV.agg [Aa g,Aa h]] fun m=>
Iv m fun n=>
bif n then (
A8 R ((3,some ⟨[Aa g,Aa h],51⟩)::(2,some ⟨[Aa e,Aa f],51⟩)::(1,some ⟨[Aa c,Aa d],51⟩)::(0,some ⟨[Aa a,Aa b],51⟩)::[]) [some (Ae true)]) else (
Bj pg KK.gl ((3,some ⟨[Aa g,Aa h],51⟩)::(2,some ⟨[Aa e,Aa f],51⟩)::(1,some ⟨[Aa c,Aa d],51⟩)::(0,some ⟨[Aa a,Aa b],51⟩)::[]) 309 [AV.agg [Aa e,Aa f],AV.agg [Aa g,Aa h],AV.agg [Aa a,Aa b]] fun o=>
Iv o fun p=>
bif p then (
A8 R ((3,some ⟨[Aa g,Aa h],51⟩)::(2,some ⟨[Aa e,Aa f],51⟩)::(1,some ⟨[Aa c,Aa d],51⟩)::(0,some ⟨[Aa a,Aa b],51⟩)::[]) [some (Ae true)]) else (
Bj pg KK.gl ((3,some ⟨[Aa g,Aa h],51⟩)::(2,some ⟨[Aa e,Aa f],51⟩)::(1,some ⟨[Aa c,Aa d],51⟩)::(0,some ⟨[Aa a,Aa b],51⟩)::[]) 309 [AV.agg [Aa e,Aa f],AV.agg [Aa g,Aa h],AV.agg [Aa c,Aa d]] fun q=>
Iv q fun r=>
A8 R ((3,some ⟨[Aa g,Aa h],51⟩)::(2,some ⟨[Aa e,Aa f],51⟩)::(1,some ⟨[Aa c,Aa d],51⟩)::(0,some ⟨[Aa a,Aa b],51⟩)::[]) [some (Ae r)]))))
theorem zB (a b c d e f g i:Int) (R:AV→Mem→Prop) (h:Ahf a b c d e f g i R):Own pg KK.gl 304 [AV.agg [Aa a,Aa b],AV.agg [Aa c,Aa d],AV.agg [Aa e,Aa f],AV.agg [Aa g,Aa i]] R:=Bc Dl Tryz.func304 (code:=Ao5) Bf Bf Bf (X:=Ahf a b c d e f g i R) Bf h
noncomputable def Ak1:Code:=((Tryz.f305).body).getD .skip
noncomputable def Api (R:AV→Mem→Prop):A4→St→Prop:=Cr pg Tryz.f305 R
noncomputable def bN:Code:=C0 Ak1 0
noncomputable def Ys (R:AV→Mem→Prop):A4→St→Prop:=Cy pg KK 22 0 Ak1 0 (Api R)
noncomputable def Ael (R:AV→Mem→Prop) (N0:St→Prop):A4→St→Prop:=Cz N0 (Ys R)
def Q5 (a:AV) (b c d e:Int) (m:Mem):St:=⟨[(0,a),(2,(Aa b)),(3,(Aa c)),(6,(Aa d)),(7,(Aa e))],m,100000⟩
noncomputable def Zd (b:AV) (k c d a:Int) (m:Mem) (R:AV→Mem→Prop) (N0:St→Prop):Prop:=
bif (decide (a<d)) then (
Bg (Cw 2 b (Aa a)) fun f=>
Bg (F2 (Ao m) 2 f) fun l=>
Da l fun n c5=>
Af n fun g=>
Af c5 fun h=>
Bj pg KK.gl m 303 [b,Aa a] fun o=>
Da o fun p Jt=>
Af p fun i=>
Af Jt fun j=>
Bj pg KK.gl m 338 [AV.agg [Aa g,Aa h],AV.agg [Aa i,Aa j]] fun q=>
Af q fun e=>
N0 ⟨[(0,b),(2,(Aa k)),(3,(Aa (IntKind.wrap .i64 (c+e)))),(6,(Aa d)),(7,(Aa (IntKind.wrap .i64 (a+(1))))),(8,(Ae (decide (a<d)))),(9,(Aa a)),(4,(Aa a)),(10,(Aa c)),(11,b),(12,(Aa a)),(13,f),(14,(AV.agg [Aa g,Aa h])),(15,b),(16,(Aa a)),(17,(AV.agg [Aa i,Aa j])),(18,(Aa e)),(19,(Aa (IntKind.wrap .i64 (c+e)))),(20,(Aa (IntKind.wrap .i64 (a+(1)))))],m,100016⟩) else (
A8 R m [some (Aa c)])
theorem rN (a:AV) (b c d e:Int) (m:Mem) (R:AV→Mem→Prop) (N0:St→Prop):W pg KK 22 0 bN (Q5 a b c d e m) (Ael R N0)=Zd a b c d e m R N0:=by kernel_rfl
theorem Akm (R:AV→Mem→Prop) {σ:Type} (I:σ→Prop) (a:σ→AV) (b c d e:σ→Int) (m:σ→Mem) (μ:σ→Nat) (step:∀x,I x→Zd (a x) (b x) (c x) (d x) (e x) (m x) R (fun s'=>∃y,I y∧μ y<μ x∧Bb KK 22 0 s' (Q5 (a y) (b y) (c y) (d y) (e y) (m y)))) (x:σ) (hx:I x) {s:St} (hw:Bb KK 22 0 s (Q5 (a x) (b x) (c x) (d x) (e x) (m x))):Bu pg KK 22 0 (.loop bN) s (Ys R):=
 Bu.Eh hw (Bu.loops Dl I (fun x=>Q5 (a x) (b x) (c x) (d x) (e x) (m x)) μ (fun x hx=>(rN (a x) (b x) (c x) (d x) (e x) (m x) R _).mpr (step x hx)) x hx)
noncomputable def Agm (a:AV) (R:AV→Mem→Prop):Prop:=
Bg (Cn a) fun b=>
Af b fun c=>
Bu pg KK 22 0 (.loop bN) ⟨[(0,a),(2,(Aa (0))),(3,(Aa (0))),(5,a),(6,(Aa c)),(7,(Aa (0)))],[],5⟩ (Ys R)
theorem Aaj (a:AV) (R:AV→Mem→Prop) (h:Agm a R):Own pg KK.gl 305 [a] R:=Bc Dl Tryz.func305 (code:=Ak1) Bf Bf Bf (X:=Agm a R) Bf h
noncomputable def vS:Code:=((Tryz.f250).body).getD .skip
noncomputable def Ant (R:AV→Mem→Prop):A4→St→Prop:=Cr pg Tryz.f250 R
noncomputable def Zk:Code:=C0 vS 0
noncomputable def Z0 (R:AV→Mem→Prop):A4→St→Prop:=Cy pg KK 84 0 vS 0 (Ant R)
noncomputable def Afm (R:AV→Mem→Prop) (N0:St→Prop):A4→St→Prop:=Cz N0 (Z0 R)
def Rs (a:AV) (b c:Int) (d:AV) (e f:Int) (m:Mem):St:=⟨[(0,a),(2,(Aa b)),(3,(Aa c)),(17,d),(18,(Aa e)),(19,(Aa f))],m,100000⟩
noncomputable def Q4:Code:=C0 vS 1
noncomputable def bG (R:AV→Mem→Prop):A4→St→Prop:=Cy pg KK 84 0 vS 1 (Ant R)
noncomputable def oU (R:AV→Mem→Prop) (N0:St→Prop):A4→St→Prop:=Cz N0 (bG R)
def Mq (a:AV) (b c d e:Int) (m:Mem):St:=⟨[(0,a),(2,(Aa b)),(3,(Aa c)),(30,(Aa d)),(31,(Aa e))],m,200000⟩
noncomputable def P5:Code:=C0 Q4 0
noncomputable def P3 (R:AV→Mem→Prop) (N0:St→Prop):A4→St→Prop:=Cy pg KK 84 0 Q4 0 (oU R N0)
noncomputable def rJ (R:AV→Mem→Prop) (N0 N1:St→Prop):A4→St→Prop:=Cz N1 (P3 R N0)
def Kj (a:AV) (b c d e f g:Int) (m:Mem):St:=⟨[(0,a),(2,(Aa b)),(3,(Aa c)),(7,(Aa d)),(8,(Aa e)),(30,(Aa f)),(31,(Aa g))],m,300000⟩
noncomputable def Zx (f:AV) (h i:Int) (g:AV) (e a:Int) (m:Mem) (R:AV→Mem→Prop) (N0:St→Prop):Prop:=
bif (decide (a<e)) then (
Bg (Cw 2 g (Aa a)) fun j=>
Bg (F2 (Ao m) 2 j) fun k=>
Da k fun l c7=>
Af l fun b=>
Af c7 fun c=>
Bj pg KK.gl ((100003,some ⟨[Aa b,Aa c],51⟩)::(100003,some ⟨[Aa (0),Aa (0)],51⟩)::m) 79 [AV.agg [Aa b,Aa c]] fun n=>
Af n fun d=>
bif (d !=(0)) then (
A8 R ((100003,some ⟨[Aa b,Aa c],51⟩)::(100003,some ⟨[Aa (0),Aa (0)],51⟩)::m) [some (Aa d)]) else (
N0 ⟨[(0,f),(2,(Aa h)),(3,(Aa i)),(17,g),(18,(Aa e)),(19,(Aa (IntKind.wrap .i64 (a+(1))))),(20,(Ae (decide (a<e)))),(21,j),(22,(AV.agg [Aa b,Aa c])),(5,(AV.ptr 100003 0)),(23,(AV.agg [Aa b,Aa c])),(24,(Aa d)),(6,(Aa d)),(25,(Aa d)),(26,(Ae (d !=(0)))),(28,(Aa (IntKind.wrap .i64 (a+(1)))))],((100003,some ⟨[Aa b,Aa c],51⟩)::(100003,some ⟨[Aa (0),Aa (0)],51⟩)::m),100075⟩)) else (
Bg (Cn f) fun o=>
Af o fun p=>
Bu pg KK 84 0 (.loop Q4) ⟨[(0,f),(2,(Aa h)),(3,(Aa i)),(17,g),(18,(Aa e)),(19,(Aa a)),(20,(Ae (decide (a<e)))),(29,f),(30,(Aa p)),(31,(Aa (0)))],m,100004⟩ (bG R))
theorem s5 (a:AV) (b c:Int) (d:AV) (e f:Int) (m:Mem) (R:AV→Mem→Prop) (N0:St→Prop):W pg KK 84 0 Zk (Rs a b c d e f m) (Afm R N0)=Zx a b c d e f m R N0:=by kernel_rfl
theorem Ako (R:AV→Mem→Prop) {σ:Type} (I:σ→Prop) (a:σ→AV) (b c:σ→Int) (d:σ→AV) (e f:σ→Int) (m:σ→Mem) (μ:σ→Nat) (step:∀x,I x→Zx (a x) (b x) (c x) (d x) (e x) (f x) (m x) R (fun s'=>∃y,I y∧μ y<μ x∧Bb KK 84 0 s' (Rs (a y) (b y) (c y) (d y) (e y) (f y) (m y)))) (x:σ) (hx:I x) {s:St} (hw:Bb KK 84 0 s (Rs (a x) (b x) (c x) (d x) (e x) (f x) (m x))):Bu pg KK 84 0 (.loop Zk) s (Z0 R):=
 Bu.Eh hw (Bu.loops Dl I (fun x=>Rs (a x) (b x) (c x) (d x) (e x) (f x) (m x)) μ (fun x hx=>(s5 (a x) (b x) (c x) (d x) (e x) (f x) (m x) R _).mpr (step x hx)) x hx)
noncomputable def Zg (b:AV) (p c d a:Int) (m:Mem) (R:AV→Mem→Prop) (N0:St→Prop):Prop:=
bif (decide (a<d)) then (
Bg (Cw 2 b (Aa a)) fun f=>
Bg (F2 (Ao m) 2 f) fun q=>
Da q fun gY r=>
Af gY fun g=>
Af r fun h=>
Bj pg KK.gl m 303 [b,Aa a] fun s=>
Da s fun t u=>
Af t fun i=>
Af u fun j=>
Bg (Cv pg (.binOp .rem 3 (.tmp 0) (.tmp 1) 3) 3 [Aa (IntKind.wrap .i64 (a+(2))),Aa c] (Ao m) 200014) fun v=>
Af v fun k=>
Bg (Cw 2 b (Aa k)) fun l=>
Bg (F2 (Ao m) 2 l) fun w=>
Da w fun x y=>
Af x fun n=>
Af y fun o=>
Bj pg KK.gl m 302 [AV.agg [Aa g,Aa h],AV.agg [Aa i,Aa j],AV.agg [Aa n,Aa o]] fun z=>
Af z fun e=>
bif (e==(0)) then (
A8 R m [some (Aa (3))]) else (
Bu pg KK 84 0 (.loop P5) ⟨[(0,b),(2,(Aa p)),(3,(Aa c)),(30,(Aa d)),(31,(Aa a)),(32,(Ae (decide (a<d)))),(33,(Aa a)),(7,(Aa a)),(34,b),(35,(Aa a)),(36,f),(37,(AV.agg [Aa g,Aa h])),(38,b),(39,(Aa a)),(40,(AV.agg [Aa i,Aa j])),(41,b),(42,(Aa a)),(43,(Aa (IntKind.wrap .i64 (a+(2))))),(44,(Aa c)),(45,(Aa k)),(46,l),(47,(AV.agg [Aa n,Aa o])),(48,(Aa e)),(49,(Ae (e==(0)))),(50,(Aa a)),(51,(Aa (IntKind.wrap .i64 (a+(2))))),(8,(Aa (IntKind.wrap .i64 (a+(2)))))],m,200022⟩ (P3 R N0))) else (
Bj pg KK.gl m 305 [b] fun aa=>
Af aa fun ab=>
bif (decide (ab≤(0))) then (
A8 R m [some (Aa (3))]) else (
A8 R m [some (Aa (0))]))
theorem sS (a:AV) (b c d e:Int) (m:Mem) (R:AV→Mem→Prop) (N0:St→Prop):W pg KK 84 0 Q4 (Mq a b c d e m) (oU R N0)=Zg a b c d e m R N0:=by kernel_rfl
theorem Ail (R:AV→Mem→Prop) {σ:Type} (I:σ→Prop) (a:σ→AV) (b c d e:σ→Int) (m:σ→Mem) (μ:σ→Nat) (step:∀x,I x→Zg (a x) (b x) (c x) (d x) (e x) (m x) R (fun s'=>∃y,I y∧μ y<μ x∧Bb KK 84 0 s' (Mq (a y) (b y) (c y) (d y) (e y) (m y)))) (x:σ) (hx:I x) {s:St} (hw:Bb KK 84 0 s (Mq (a x) (b x) (c x) (d x) (e x) (m x))):Bu pg KK 84 0 (.loop Q4) s (bG R):=
 Bu.Eh hw (Bu.loops Dl I (fun x=>Mq (a x) (b x) (c x) (d x) (e x) (m x)) μ (fun x hx=>(sS (a x) (b x) (c x) (d x) (e x) (m x) R _).mpr (step x hx)) x hx)
noncomputable def Pw (d:AV) (g b c a h f:Int) (m:Mem) (R:AV→Mem→Prop) (N0 N1:St→Prop):Prop:=
bif (decide (a<b)) then (
Bg (Cv pg (.binOp .rem 3 (.tmp 0) (.tmp 1) 3) 3 [Aa (IntKind.wrap .i64 (a+(1))),Aa b] (Ao m) 300006) fun u=>
Af u fun e=>
bif (e !=c) then (
Bg (Cw 2 d (Aa c)) fun j=>
Bg (F2 (Ao m) 2 j) fun v=>
Da v fun w x=>
Af w fun k=>
Af x fun l=>
Bj pg KK.gl m 303 [d,Aa c] fun y=>
Da y fun Tj z=>
Af Tj fun n=>
Af z fun o=>
Bg (Cw 2 d (Aa a)) fun p=>
Bg (F2 (Ao m) 2 p) fun aa=>
Da aa fun ab ad=>
Af ab fun q=>
Af ad fun r=>
Bj pg KK.gl m 303 [d,Aa a] fun ae=>
Da ae fun af ag=>
Af af fun s=>
Af ag fun t=>
Bj pg KK.gl m 304 [AV.agg [Aa k,Aa l],AV.agg [Aa n,Aa o],AV.agg [Aa q,Aa r],AV.agg [Aa s,Aa t]] fun ah=>
Iv ah fun i=>
bif i then (
A8 R m [some (Aa (3))]) else (
N1 ⟨[(0,d),(2,(Aa g)),(3,(Aa b)),(7,(Aa c)),(8,(Aa (IntKind.wrap .i64 (a+(1))))),(30,(Aa h)),(31,(Aa f)),(52,(Aa a)),(53,(Aa b)),(54,(Ae (decide (a<b)))),(57,(Aa a)),(58,(Aa (IntKind.wrap .i64 (a+(1))))),(59,(Aa b)),(60,(Aa e)),(61,(Aa c)),(62,(Ae (e !=c))),(63,(Ae true)),(64,d),(65,(Aa c)),(66,j),(67,(AV.agg [Aa k,Aa l])),(68,d),(69,(Aa c)),(70,(AV.agg [Aa n,Aa o])),(71,d),(72,(Aa a)),(73,p),(74,(AV.agg [Aa q,Aa r])),(75,d),(76,(Aa a)),(77,(AV.agg [Aa s,Aa t])),(78,(Ae i)),(79,(Ae i)),(55,(Aa a)),(56,(Aa (IntKind.wrap .i64 (a+(1)))))],m,300029⟩)) else (
N1 ⟨[(0,d),(2,(Aa g)),(3,(Aa b)),(7,(Aa c)),(8,(Aa (IntKind.wrap .i64 (a+(1))))),(30,(Aa h)),(31,(Aa f)),(52,(Aa a)),(53,(Aa b)),(54,(Ae (decide (a<b)))),(57,(Aa a)),(58,(Aa (IntKind.wrap .i64 (a+(1))))),(59,(Aa b)),(60,(Aa e)),(61,(Aa c)),(62,(Ae (e !=c))),(63,(Ae false)),(64,(AV.Bn [])),(65,(AV.Bn [])),(66,(AV.Bn [])),(67,(AV.Bn [])),(68,(AV.Bn [])),(69,(AV.Bn [])),(70,(AV.Bn [])),(71,(AV.Bn [])),(72,(AV.Bn [])),(73,(AV.Bn [])),(74,(AV.Bn [])),(75,(AV.Bn [])),(76,(AV.Bn [])),(77,(AV.Bn [])),(78,(AV.Bn [])),(79,(Ae false)),(55,(Aa a)),(56,(Aa (IntKind.wrap .i64 (a+(1)))))],m,300029⟩)) else (
N0 ⟨[(0,d),(2,(Aa g)),(3,(Aa b)),(7,(Aa c)),(8,(Aa a)),(30,(Aa h)),(31,(Aa (IntKind.wrap .i64 (f+(1))))),(52,(Aa a)),(53,(Aa b)),(54,(Ae (decide (a<b)))),(80,(Aa (IntKind.wrap .i64 (f+(1)))))],m,300005⟩)
theorem eD (a:AV) (b c d e f g:Int) (m:Mem) (R:AV→Mem→Prop) (N0 N1:St→Prop):W pg KK 84 0 P5 (Kj a b c d e f g m) (rJ R N0 N1)=Pw a b c d e f g m R N0 N1:=by kernel_rfl
theorem tU (R:AV→Mem→Prop) (N0:St→Prop) {σ:Type} (I:σ→Prop) (a:σ→AV) (b c d e f g:σ→Int) (m:σ→Mem) (μ:σ→Nat) (step:∀x,I x→Pw (a x) (b x) (c x) (d x) (e x) (f x) (g x) (m x) R N0 (fun s'=>∃y,I y∧μ y<μ x∧Bb KK 84 0 s' (Kj (a y) (b y) (c y) (d y) (e y) (f y) (g y) (m y)))) (x:σ) (hx:I x) {s:St} (hw:Bb KK 84 0 s (Kj (a x) (b x) (c x) (d x) (e x) (f x) (g x) (m x))):Bu pg KK 84 0 (.loop P5) s (P3 R N0):=
 Bu.Eh hw (Bu.loops Dl I (fun x=>Kj (a x) (b x) (c x) (d x) (e x) (f x) (g x) (m x)) μ (fun x hx=>(eD (a x) (b x) (c x) (d x) (e x) (f x) (g x) (m x) R N0 _).mpr (step x hx)) x hx)
noncomputable def Aej (b:AV) (R:AV→Mem→Prop):Prop:=
Bg (Cn b) fun c=>
Af c fun a=>
bif (decide (a>(16))) then (
A8 R [] [some (Aa (2))]) else (
bif (decide (a<(3))) then (
A8 R [] [some (Aa (3))]) else (
Bg (Cn b) fun d=>
Af d fun e=>
Bu pg KK 84 0 (.loop Zk) ⟨[(0,b),(2,(Aa (0))),(9,b),(10,(Aa a)),(3,(Aa a)),(12,(Aa a)),(13,(Ae (decide (a>(16))))),(11,(Ae (decide (a>(16))))),(15,(Aa a)),(16,(Ae (decide (a<(3))))),(14,(Ae (decide (a<(3))))),(17,b),(18,(Aa e)),(19,(Aa (0)))],[],13⟩ (Z0 R)))
theorem xN (a:AV) (R:AV→Mem→Prop) (h:Aej a R):Own pg KK.gl 250 [a] R:=Bc Dl Tryz.func250 (code:=vS) Bf Bf Bf (X:=Aej a R) Bf h
noncomputable def Ap3:Code:=((Tryz.f193).body).getD .skip
noncomputable def Ara (R:AV→Mem→Prop):A4→St→Prop:=Cr pg Tryz.f193 R
noncomputable def Abd (a:AV) (b c:Int) (R:AV→Mem→Prop):Prop:=
Hv (B7 a)<|Bj pg KK.gl ((0,some ⟨[a,Aa b,Aa c],316⟩)::[]) 250 [a] fun e=>
Af e fun d=>
bif (d !=(0)) then (
A8 R ((0,some ⟨[a,Aa b,Aa c],316⟩)::[]) [some (Aa d)]) else (
bif (decide (b<(0))) then (
A8 R ((0,some ⟨[a,Aa b,Aa c],316⟩)::[]) [some (Aa (4))]) else (
bif (decide (c>(60001))) then (
A8 R ((0,some ⟨[a,Aa b,Aa c],316⟩)::[]) [some (Aa (4))]) else (
bif (decide (b≥c)) then (
A8 R ((0,some ⟨[a,Aa b,Aa c],316⟩)::[]) [some (Aa (4))]) else (
A8 R ((0,some ⟨[a,Aa b,Aa c],316⟩)::[]) [some (Aa (0))]))))
theorem yJ (a:AV) (b c:Int) (R:AV→Mem→Prop) (h:Abd a b c R):Own pg KK.gl 193 [AV.agg [a,Aa b,Aa c]] R:=Bc Dl Tryz.func193 (code:=Ap3) Bf Bf Bf (X:=Abd a b c R) Bf h
noncomputable def Aor:Code:=((Tryz.f195).body).getD .skip
noncomputable def Aq7 (R:AV→Mem→Prop):A4→St→Prop:=Cr pg Tryz.f195 R
noncomputable def Agt (a:ByteArray) (b c:AV) (R:AV→Mem→Prop):Prop:=
Hv (B7 b)<|Bg (Iz 0 c) fun d=>
Bg (Ff (Ao ((0,some ⟨[AV.sc (.string a),b],32⟩)::[])) d) fun e=>
Ei e fun s2=>
A8 R ((0,some ⟨[AV.sc (.string a),b],32⟩)::[]) [some (Ae ((a).toList==(s2).toList))]
theorem Aav (a:ByteArray) (b c:AV) (R:AV→Mem→Prop) (h:Agt a b c R):Own pg KK.gl 195 [AV.agg [AV.sc (.string a),b],c] R:=Bc Dl Tryz.func195 (code:=Aor) Bf Bf Bf (X:=Agt a b c R) Bf h
noncomputable def Apu:Code:=((Tryz.f194).body).getD .skip
noncomputable def Ar7 (R:AV→Mem→Prop):A4→St→Prop:=Cr pg Tryz.f194 R
noncomputable def Agb (a b:AV) (R:AV→Mem→Prop):Prop:=
Bj pg KK.gl [] 197 [a,b] fun c=>
Af c fun d=>
A8 R [] [some (Ae (decide (d≥(0))))]
theorem wU (a b:AV) (R:AV→Mem→Prop) (h:Agb a b R):Own pg KK.gl 194 [a,b] R:=Bc Dl Tryz.func194 (code:=Apu) Bf Bf Bf (X:=Agb a b R) Bf h
noncomputable def Aj8:Code:=((Tryz.f307).body).getD .skip
noncomputable def Ao7 (R:AV→Mem→Prop):A4→St→Prop:=Cr pg Tryz.f307 R
noncomputable def Y7:Code:=C0 Aj8 0
noncomputable def Y6 (R:AV→Mem→Prop):A4→St→Prop:=Cy pg KK 24 0 Aj8 0 (Ao7 R)
noncomputable def Ac6 (R:AV→Mem→Prop) (N0:St→Prop):A4→St→Prop:=Cz N0 (Y6 R)
def R0 (a b c:AV) (d e:Int) (m:Mem):St:=⟨[(2,a),(3,b),(6,c),(7,(Aa d)),(8,(Aa e))],m,100000⟩
noncomputable def Yy (l d f:AV) (e a:Int) (m:Mem) (R:AV→Mem→Prop) (N0:St→Prop):Prop:=
bif (decide (a<e)) then (
Bg (Cw 2 f (Aa a)) fun g=>
Bg (F2 (Ao m) 2 g) fun n=>
Da n fun o c5=>
Af o fun b=>
Af c5 fun c=>
Bg (b9 [Aa (0),Aa (0)] [(0,1),(1,1)] [(0,(Aa (IntKind.wrap .i64 ((2)*b)))),(1,(Aa (IntKind.wrap .i64 ((2)*c))))]) fun h=>
Ia (kT 100013 51 2 1 [Aa (0),Aa (0)] [(0,h)]) ((100003,some ⟨[Aa b,Aa c],51⟩)::(100003,some ⟨[Aa (0),Aa (0)],51⟩)::m) fun i j=>
Ia (app (Ao j) 51 2 16 [Aa (0),Aa (0)] 100014 d i) j fun k p=>
N0 ⟨[(2,l),(3,k),(6,f),(7,(Aa e)),(8,(Aa (IntKind.wrap .i64 (a+(1))))),(9,(Ae (decide (a<e)))),(10,g),(11,(AV.agg [Aa b,Aa c])),(5,(AV.ptr 100003 0)),(12,d),(13,(AV.ptr 100003 0)),(14,(Aa b)),(15,(Aa (IntKind.wrap .i64 ((2)*b)))),(16,(AV.ptr 100003 1)),(17,(Aa c)),(18,(Aa (IntKind.wrap .i64 ((2)*c)))),(19,h),(20,i),(21,k),(22,(Aa (IntKind.wrap .i64 (a+(1)))))],p,100018⟩) else (
A8 R m [some d])
theorem pT (a b c:AV) (d e:Int) (m:Mem) (R:AV→Mem→Prop) (N0:St→Prop):W pg KK 24 0 Y7 (R0 a b c d e m) (Ac6 R N0)=Yy a b c d e m R N0:=by kernel_rfl
theorem Aio (R:AV→Mem→Prop) {σ:Type} (I:σ→Prop) (a b c:σ→AV) (d e:σ→Int) (m:σ→Mem) (μ:σ→Nat) (step:∀x,I x→Yy (a x) (b x) (c x) (d x) (e x) (m x) R (fun s'=>∃y,I y∧μ y<μ x∧Bb KK 24 0 s' (R0 (a y) (b y) (c y) (d y) (e y) (m y)))) (x:σ) (hx:I x) {s:St} (hw:Bb KK 24 0 s (R0 (a x) (b x) (c x) (d x) (e x) (m x))):Bu pg KK 24 0 (.loop Y7) s (Y6 R):=
 Bu.Eh hw (Bu.loops Dl I (fun x=>R0 (a x) (b x) (c x) (d x) (e x) (m x)) μ (fun x hx=>(pT (a x) (b x) (c x) (d x) (e x) (m x) R _).mpr (step x hx)) x hx)
noncomputable def Afj (a:AV) (R:AV→Mem→Prop):Prop:=
Bg (Cn a) fun b=>
Af b fun c=>
Bu pg KK 24 0 (.loop Y7) ⟨[(0,a),(2,AV.Bp),(3,AV.Bp),(6,a),(7,(Aa c)),(8,(Aa (0)))],[],5⟩ (Y6 R)
theorem yW (a:AV) (R:AV→Mem→Prop) (h:Afj a R):Own pg KK.gl 307 [a] R:=Bc Dl Tryz.func307 (code:=Aj8) Bf Bf Bf (X:=Afj a R) Bf h
noncomputable def Ape:Code:=((Tryz.f340).body).getD .skip
noncomputable def Aq6 (R:AV→Mem→Prop):A4→St→Prop:=Cr pg Tryz.f340 R
noncomputable def Acu (a b c d:Int) (e:AV) (R:AV→Mem→Prop):Prop:=
Bg (F2 (Ao ((1,some ⟨[Aa c,Aa d],51⟩)::(0,some ⟨[Aa a,Aa b],51⟩)::[])) 2 e) fun f=>
Da f fun g h=>
Af g fun i=>
Af h fun j=>
Bj pg KK.gl ((1,some ⟨[Aa c,Aa d],51⟩)::(0,some ⟨[Aa a,Aa b],51⟩)::[]) 280 [AV.agg [Aa i,Aa j],AV.agg [Aa a,Aa b]] fun k=>
Af k fun l=>
Bg (F2 (Ao ((1,some ⟨[Aa c,Aa d],51⟩)::(0,some ⟨[Aa a,Aa b],51⟩)::[])) 2 e) fun m=>
Da m fun n o=>
Af n fun p=>
Af o fun q=>
Bj pg KK.gl ((1,some ⟨[Aa c,Aa d],51⟩)::(0,some ⟨[Aa a,Aa b],51⟩)::[]) 280 [AV.agg [Aa p,Aa q],AV.agg [Aa c,Aa d]] fun r=>
Af r fun s=>
A8 R ((1,some ⟨[Aa c,Aa d],51⟩)::(0,some ⟨[Aa a,Aa b],51⟩)::[]) [some (Aa (IntKind.wrap .i64 (l-s)))]
theorem vW (a b c d:Int) (e:AV) (R:AV→Mem→Prop) (h:Acu a b c d e R):Own pg KK.gl 340 [AV.agg [Aa a,Aa b],AV.agg [Aa c,Aa d],e] R:=Bc Dl Tryz.func340 (code:=Ape) Bf Bf Bf (X:=Acu a b c d e R) Bf h
noncomputable def Akk:Code:=((Tryz.f308).body).getD .skip
noncomputable def Aos (R:AV→Mem→Prop):A4→St→Prop:=Cr pg Tryz.f308 R
noncomputable def Ly:Code:=C0 Akk 0
noncomputable def Yr (R:AV→Mem→Prop):A4→St→Prop:=Cy pg KK 127 0 Akk 0 (Aos R)
noncomputable def bX (R:AV→Mem→Prop) (N0:St→Prop):A4→St→Prop:=Cz N0 (Yr R)
def H4 (a b:AV) (c:Bool) (d e:Int) (m:Mem):St:=⟨[(0,a),(1,b),(4,(Ae c)),(17,(Aa d)),(18,(Aa e))],m,100000⟩
noncomputable def Qe:Code:=C0 Ly 0
noncomputable def Qj (R:AV→Mem→Prop) (N0:St→Prop):A4→St→Prop:=Cy pg KK 127 0 Ly 0 (bX R N0)
noncomputable def sL (R:AV→Mem→Prop) (N0 N1:St→Prop):A4→St→Prop:=Cz N1 (Qj R N0)
def Ka (a b:AV) (c:Bool) (d:AV) (e f:Int) (g:AV) (h i:Int) (m:Mem):St:=⟨[(0,a),(1,b),(4,(Ae c)),(6,(AV.ptr 100010 0)),(7,(AV.ptr 100011 0)),(8,d),(17,(Aa e)),(18,(Aa f)),(31,g),(32,(Aa h)),(33,(Aa i))],m,200000⟩
noncomputable def Kh:Code:=C0 Ly 1
noncomputable def Ow (R:AV→Mem→Prop) (N0:St→Prop):A4→St→Prop:=Cy pg KK 127 0 Ly 1 (bX R N0)
noncomputable def X1 (R:AV→Mem→Prop) (N0 N1:St→Prop):A4→St→Prop:=Cz N1 (Ow R N0)
def Hl (a b:AV) (c:Bool) (d:AV) (e f g:Int) (m:Mem):St:=⟨[(0,a),(1,b),(4,(Ae c)),(6,(AV.ptr 100010 0)),(7,(AV.ptr 100011 0)),(8,d),(11,(Aa e)),(17,(Aa f)),(18,(Aa g))],m,300000⟩
noncomputable def Ks:Code:=C0 Kh 0
noncomputable def K1 (R:AV→Mem→Prop) (N0 N1:St→Prop):A4→St→Prop:=Cy pg KK 127 0 Kh 0 (X1 R N0 N1)
noncomputable def fO (R:AV→Mem→Prop) (N0 N1 N2:St→Prop):A4→St→Prop:=Cz N2 (K1 R N0 N1)
def Hd (a b:AV) (c:Bool) (d:AV) (e f g h i:Int) (m:Mem):St:=⟨[(0,a),(1,b),(4,(Ae c)),(6,(AV.ptr 100010 0)),(7,(AV.ptr 100011 0)),(8,d),(11,(Aa e)),(12,(AV.ptr 300041 0)),(17,(Aa f)),(18,(Aa g)),(100,(Aa h)),(101,(Aa i))],m,400000⟩
noncomputable def bQ (b h:AV) (p:Bool) (i a:Int) (m:Mem) (R:AV→Mem→Prop) (N0:St→Prop):Prop:=
bif (decide (a<i)) then (
Gb (Cw 2 b (Aa a)) fun c d2=>
Gb (F2 (Cf (Ac m d2) (A3 c++([]))) 2 c) fun q d3=>
Da q fun r c5=>
Af r fun d=>
Af c5 fun e=>
Va pg KK.gl (Ac (Ac m d2) d3) 100009 303 [b,Aa a] fun s d8 ft8=>
Da s fun t Jt=>
Af t fun f=>
Af Jt fun g=>
C4 pg (Cf ((100011,some ⟨[Aa (0),Aa (0)],51⟩)::(100010,some ⟨[Aa (0),Aa (0)],51⟩)::(Ac (Ac (Ac m d2) d3) d8)) (A3 (AV.ptr 100010 0)++(A3 (AV.agg [Aa d,Aa e])++([])))) 51 (AV.ptr 100010 0) (AV.agg [Aa d,Aa e]) fun ad d13=>
C4 pg (Cf (Ac ((100011,some ⟨[Aa (0),Aa (0)],51⟩)::(100010,some ⟨[Aa (0),Aa (0)],51⟩)::(Ac (Ac (Ac m d2) d3) d8)) d13) (A3 (AV.ptr 100011 0)++(A3 (AV.agg [Aa f,Aa g])++([])))) 51 (AV.ptr 100011 0) (AV.agg [Aa f,Aa g]) fun ae d14=>
Hv (D5 [0,0,3,7,0,0,48,0,0,511,1023] [⟨[],[]⟩,⟨[],[]⟩,⟨d2,[]⟩,⟨d3,A3 c++([])⟩,⟨[],[]⟩,⟨[],[]⟩,⟨d8,ft8⟩,⟨[(100010,some ⟨[Aa (0),Aa (0)],51⟩)],[]⟩,⟨[(100011,some ⟨[Aa (0),Aa (0)],51⟩)],[]⟩,⟨d13,A3 (AV.ptr 100010 0)++(A3 (AV.agg [Aa d,Aa e])++([]))⟩,⟨d14,A3 (AV.ptr 100011 0)++(A3 (AV.agg [Aa f,Aa g])++([]))⟩]) (Bg (F2 (Ao (Ac (Ac ((100011,some ⟨[Aa (0),Aa (0)],51⟩)::(100010,some ⟨[Aa (0),Aa (0)],51⟩)::(Ac (Ac (Ac m d2) d3) d8)) d13) d14)) 2 (AV.ptr 100010 0)) fun u=>
Da u fun gY v=>
Af gY fun j=>
Af v fun k=>
Bg (F2 (Ao (Ac (Ac ((100011,some ⟨[Aa (0),Aa (0)],51⟩)::(100010,some ⟨[Aa (0),Aa (0)],51⟩)::(Ac (Ac (Ac m d2) d3) d8)) d13) d14)) 2 (AV.ptr 100011 0)) fun w=>
Da w fun x y=>
Af x fun l=>
Af y fun n=>
Ia (kT 100016 51 2 2 [Aa (0),Aa (0)] [(0,(AV.agg [Aa j,Aa k])),(1,(AV.agg [Aa l,Aa n]))]) (Ac (Ac ((100011,some ⟨[Aa (0),Aa (0)],51⟩)::(100010,some ⟨[Aa (0),Aa (0)],51⟩)::(Ac (Ac (Ac m d2) d3) d8)) d13) d14) fun o z=>
Bg (Cn h) fun aa=>
Af aa fun ab=>
Bu pg KK 127 0 (.loop Qe) ⟨[(0,b),(1,h),(4,(Ae p)),(17,(Aa i)),(18,(Aa a)),(19,(Ae (decide (a<i)))),(20,(Aa a)),(5,(Aa a)),(21,b),(22,(Aa a)),(23,c),(24,(AV.agg [Aa d,Aa e])),(25,b),(26,(Aa a)),(27,(AV.agg [Aa f,Aa g])),(6,(AV.ptr 100010 0)),(7,(AV.ptr 100011 0)),(28,(AV.agg [Aa j,Aa k])),(29,(AV.agg [Aa l,Aa n])),(30,o),(8,o),(31,h),(32,(Aa ab)),(33,(Aa (0)))],z,100021⟩ (Qj R N0))) else (
A8 R m [some (Ae false)])
theorem sP (a b:AV) (c:Bool) (d e:Int) (m:Mem) (R:AV→Mem→Prop) (N0:St→Prop):W pg KK 127 0 Ly (H4 a b c d e m) (bX R N0)=bQ a b c d e m R N0:=by kernel_rfl
theorem Ai3 (R:AV→Mem→Prop) {σ:Type} (I:σ→Prop) (a b:σ→AV) (c:σ→Bool) (d e:σ→Int) (m:σ→Mem) (μ:σ→Nat) (step:∀x,I x→bQ (a x) (b x) (c x) (d x) (e x) (m x) R (fun s'=>∃y,I y∧μ y<μ x∧Bb KK 127 0 s' (H4 (a y) (b y) (c y) (d y) (e y) (m y)))) (x:σ) (hx:I x) {s:St} (hw:Bb KK 127 0 s (H4 (a x) (b x) (c x) (d x) (e x) (m x))):Bu pg KK 127 0 (.loop Ly) s (Yr R):=
 Bu.Eh hw (Bu.loops Dl I (fun x=>H4 (a x) (b x) (c x) (d x) (e x) (m x)) μ (fun x hx=>(sP (a x) (b x) (c x) (d x) (e x) (m x) R _).mpr (step x hx)) x hx)
noncomputable def Ov (g h:AV) (i:Bool) (e:AV) (j k:Int) (f:AV) (d c:Int) (m:Mem) (R:AV→Mem→Prop) (N0 N1:St→Prop):Prop:=
bif (decide (c<d)) then (
Bg (Cw 2 f (Aa c)) fun l=>
Bg (F2 (Ao m) 2 l) fun v=>
Da v fun w x=>
Af w fun a=>
Af x fun b=>
Bg (F2 (Ao ((200003,some ⟨[Aa a,Aa b],51⟩)::(200003,some ⟨[Aa (0),Aa (0)],51⟩)::m)) 2 (AV.ptr 100010 0)) fun y=>
Da y fun z aa=>
Af z fun n=>
Af aa fun o=>
Bg (F2 (Ao ((200003,some ⟨[Aa a,Aa b],51⟩)::(200003,some ⟨[Aa (0),Aa (0)],51⟩)::m)) 2 (AV.ptr 100011 0)) fun ab=>
Da ab fun ad Mm=>
Af ad fun p=>
Af Mm fun q=>
Bj pg KK.gl ((200003,some ⟨[Aa a,Aa b],51⟩)::(200003,some ⟨[Aa (0),Aa (0)],51⟩)::m) 309 [AV.agg [Aa n,Aa o],AV.agg [Aa p,Aa q],AV.agg [Aa a,Aa b]] fun ae=>
Iv ae fun r=>
bif r then (
Ia (kT 200074 51 2 1 [Aa (0),Aa (0)] [(0,(AV.agg [Aa a,Aa b]))]) ((200003,some ⟨[Aa a,Aa b],51⟩)::(200003,some ⟨[Aa (0),Aa (0)],51⟩)::m) fun s t=>
Ia (app (Ao t) 51 2 16 [Aa (0),Aa (0)] 200075 e s) t fun u af=>
N1 ⟨[(0,g),(1,h),(4,(Ae i)),(6,(AV.ptr 100010 0)),(7,(AV.ptr 100011 0)),(8,u),(17,(Aa j)),(18,(Aa k)),(31,f),(32,(Aa d)),(33,(Aa (IntKind.wrap .i64 (c+(1))))),(34,(Ae (decide (c<d)))),(35,l),(36,(AV.agg [Aa a,Aa b])),(10,(AV.ptr 200003 0)),(37,(AV.agg [Aa n,Aa o])),(38,(AV.agg [Aa p,Aa q])),(39,(AV.agg [Aa a,Aa b])),(40,(Ae r)),(41,e),(42,(AV.agg [Aa a,Aa b])),(43,s),(44,u),(45,(Aa (IntKind.wrap .i64 (c+(1)))))],af,200079⟩) else (
N1 ⟨[(0,g),(1,h),(4,(Ae i)),(6,(AV.ptr 100010 0)),(7,(AV.ptr 100011 0)),(8,e),(17,(Aa j)),(18,(Aa k)),(31,f),(32,(Aa d)),(33,(Aa (IntKind.wrap .i64 (c+(1))))),(34,(Ae (decide (c<d)))),(35,l),(36,(AV.agg [Aa a,Aa b])),(10,(AV.ptr 200003 0)),(37,(AV.agg [Aa n,Aa o])),(38,(AV.agg [Aa p,Aa q])),(39,(AV.agg [Aa a,Aa b])),(40,(Ae r)),(45,(Aa (IntKind.wrap .i64 (c+(1)))))],((200003,some ⟨[Aa a,Aa b],51⟩)::(200003,some ⟨[Aa (0),Aa (0)],51⟩)::m),200074⟩)) else (
Ep pg KK.gl m 200003 339 [e,AV.fn 340 [AV.ptr 100010 0]] fun ag ah=>
T7 ag<|
Bu pg KK 127 0 (.loop Kh) ⟨[(0,g),(1,h),(4,(Ae i)),(6,(AV.ptr 100010 0)),(7,(AV.ptr 100011 0)),(8,e),(17,(Aa j)),(18,(Aa k)),(31,f),(32,(Aa d)),(33,(Aa c)),(34,(Ae (decide (c<d)))),(46,e),(47,(AV.fn 340 [AV.ptr 100010 0])),(48,(AV.Bn [])),(11,(Aa (1)))],ah,200068⟩ (Ow R N0))
theorem cB (a b:AV) (c:Bool) (d:AV) (e f:Int) (g:AV) (h i:Int) (m:Mem) (R:AV→Mem→Prop) (N0 N1:St→Prop):W pg KK 127 0 Qe (Ka a b c d e f g h i m) (sL R N0 N1)=Ov a b c d e f g h i m R N0 N1:=by kernel_rfl
theorem wC (R:AV→Mem→Prop) (N0:St→Prop) {σ:Type} (I:σ→Prop) (a b:σ→AV) (c:σ→Bool) (d:σ→AV) (e f:σ→Int) (g:σ→AV) (h i:σ→Int) (m:σ→Mem) (μ:σ→Nat) (step:∀x,I x→Ov (a x) (b x) (c x) (d x) (e x) (f x) (g x) (h x) (i x) (m x) R N0 (fun s'=>∃y,I y∧μ y<μ x∧Bb KK 127 0 s' (Ka (a y) (b y) (c y) (d y) (e y) (f y) (g y) (h y) (i y) (m y)))) (x:σ) (hx:I x) {s:St} (hw:Bb KK 127 0 s (Ka (a x) (b x) (c x) (d x) (e x) (f x) (g x) (h x) (i x) (m x))):Bu pg KK 127 0 (.loop Qe) s (Qj R N0):=
 Bu.Eh hw (Bu.loops Dl I (fun x=>Ka (a x) (b x) (c x) (d x) (e x) (f x) (g x) (h x) (i x) (m x)) μ (fun x hx=>(cB (a x) (b x) (c x) (d x) (e x) (f x) (g x) (h x) (i x) (m x) R N0 _).mpr (step x hx)) x hx)
noncomputable def Pb (q d:AV) (r:Bool) (b:AV) (a s j:Int) (m:Mem) (R:AV→Mem→Prop) (N0 N1:St→Prop):Prop:=
Bg (Cn b) fun ah=>
Af ah fun e=>
bif (decide (a<e)) then (
Bg (Cw 2 b (Aa a)) fun t=>
Bg (F2 (Ao m) 2 t) fun ai=>
Da ai fun c53 c54=>
Af c53 fun u=>
Af c54 fun v=>
Bg (Cw 2 b (Aa (IntKind.wrap .i64 (a-(1))))) fun w=>
Bg (F2 (Ao m) 2 w) fun aj=>
Da aj fun c59 ak=>
Af c59 fun x=>
Af ak fun y=>
Bg (Cv pg (.binOp .eql 51 (.tmp 0) (.tmp 1) 51) 4 [AV.agg [Aa u,Aa v],AV.agg [Aa x,Aa y]] (Ao m) 300013) fun am=>
Iv am fun z=>
bif z then (
N1 ⟨[(0,q),(1,d),(4,(Ae r)),(6,(AV.ptr 100010 0)),(7,(AV.ptr 100011 0)),(8,b),(11,(Aa (IntKind.wrap .i64 (a+(1))))),(17,(Aa s)),(18,(Aa j)),(49,(Aa a)),(50,b),(51,(Aa e)),(52,(Ae (decide (a<e)))),(55,b),(56,(Aa a)),(57,t),(58,(AV.agg [Aa u,Aa v])),(59,b),(60,(Aa a)),(61,(Aa (IntKind.wrap .i64 (a-(1))))),(62,w),(63,(AV.agg [Aa x,Aa y])),(64,(Ae z)),(53,(Aa a)),(54,(Aa (IntKind.wrap .i64 (a+(1)))))],m,300017⟩) else (
Gb (Cw 2 b (Aa a)) fun aa d65=>
Gb (Iz 0 aa) fun k d66=>
Gb (Ff (Cf (Ac (Ac m d65) d66) (A3 k++([]))) k) fun an d67=>
Af an fun f=>
Gb (Cw 2 b (Aa (IntKind.wrap .i64 (a-(1))))) fun ab d69=>
Gb (Iz 0 ab) fun l d70=>
Gb (Ff (Cf (Ac (Ac (Ac (Ac (Ac m d65) d66) d67) d69) d70) (A3 l++([]))) l) fun ao d71=>
Af ao fun g=>
Gb (Cw 2 b (Aa a)) fun ad d73=>
Gb (Iz 1 ad) fun n d74=>
Gb (Ff (Cf (Ac (Ac (Ac (Ac (Ac (Ac (Ac (Ac m d65) d66) d67) d69) d70) d71) d73) d74) (A3 n++([]))) n) fun ap d75=>
Af ap fun h=>
Gb (Cw 2 b (Aa (IntKind.wrap .i64 (a-(1))))) fun ae d77=>
Gb (Iz 1 ae) fun o d78=>
Gb (Ff (Cf (Ac (Ac (Ac (Ac (Ac (Ac (Ac (Ac (Ac (Ac (Ac m d65) d66) d67) d69) d70) d71) d73) d74) d75) d77) d78) (A3 o++([]))) o) fun aq d79=>
Af aq fun i=>
Gb (b9 [Aa (0),Aa (0)] [(0,1),(1,1)] [(0,(Aa (IntKind.wrap .i64 (Int.tdiv (IntKind.wrap .i64 (f+g)) (2))))),(1,(Aa (IntKind.wrap .i64 (Int.tdiv (IntKind.wrap .i64 (h+i)) (2)))))]) fun p d81=>
C4 pg (Cf ((300041,some ⟨[Aa (0),Aa (0)],51⟩)::(Ac (Ac (Ac (Ac (Ac (Ac (Ac (Ac (Ac (Ac (Ac (Ac (Ac m d65) d66) d67) d69) d70) d71) d73) d74) d75) d77) d78) d79) d81)) (A3 (AV.ptr 300041 0)++(A3 p++([])))) 51 (AV.ptr 300041 0) p fun az d82=>
Hv (D5 [0,0,3,7,15,0,0,64,224,480,992,2047,4095,0,0,24576,57344,122880,0,0,524288,1835008,3932160,8126464,16769024,33546240,67108863,0,268435455] [⟨[],[]⟩,⟨[],[]⟩,⟨d65,[]⟩,⟨d66,[]⟩,⟨d67,A3 k++([])⟩,⟨[],[]⟩,⟨[],[]⟩,⟨[],[]⟩,⟨d69,[]⟩,⟨d70,[]⟩,⟨d71,A3 l++([])⟩,⟨[],[]⟩,⟨[],[]⟩,⟨[],[]⟩,⟨[],[]⟩,⟨d73,[]⟩,⟨d74,[]⟩,⟨d75,A3 n++([])⟩,⟨[],[]⟩,⟨[],[]⟩,⟨[],[]⟩,⟨d77,[]⟩,⟨d78,[]⟩,⟨d79,A3 o++([])⟩,⟨[],[]⟩,⟨[],[]⟩,⟨d81,[]⟩,⟨[(300041,some ⟨[Aa (0),Aa (0)],51⟩)],[]⟩,⟨d82,A3 (AV.ptr 300041 0)++(A3 p++([]))⟩]) (Bg (F2 (Ao (Ac ((300041,some ⟨[Aa (0),Aa (0)],51⟩)::(Ac (Ac (Ac (Ac (Ac (Ac (Ac (Ac (Ac (Ac (Ac (Ac (Ac m d65) d66) d67) d69) d70) d71) d73) d74) d75) d77) d78) d79) d81)) d82)) 2 (AV.ptr 300041 0)) fun ar=>
Da ar fun au av=>
Af au fun af=>
Af av fun ag=>
Bj pg KK.gl (Ac ((300041,some ⟨[Aa (0),Aa (0)],51⟩)::(Ac (Ac (Ac (Ac (Ac (Ac (Ac (Ac (Ac (Ac (Ac (Ac (Ac m d65) d66) d67) d69) d70) d71) d73) d74) d75) d77) d78) d79) d81)) d82) 253 [d,AV.agg [Aa af,Aa ag]] fun aw=>
Af aw fun c=>
bif (c==(1)) then (
A8 R (Ac ((300041,some ⟨[Aa (0),Aa (0)],51⟩)::(Ac (Ac (Ac (Ac (Ac (Ac (Ac (Ac (Ac (Ac (Ac (Ac (Ac m d65) d66) d67) d69) d70) d71) d73) d74) d75) d77) d78) d79) d81)) d82) [some (Ae true)]) else (
bif (c==(0)) then (
Bg (Cn d) fun ax=>
Af ax fun ay=>
Bu pg KK 127 0 (.loop Ks) ⟨[(0,q),(1,d),(4,(Ae r)),(6,(AV.ptr 100010 0)),(7,(AV.ptr 100011 0)),(8,b),(11,(Aa a)),(17,(Aa s)),(18,(Aa j)),(49,(Aa a)),(50,b),(51,(Aa e)),(52,(Ae (decide (a<e)))),(55,b),(56,(Aa a)),(57,t),(58,(AV.agg [Aa u,Aa v])),(59,b),(60,(Aa a)),(61,(Aa (IntKind.wrap .i64 (a-(1))))),(62,w),(63,(AV.agg [Aa x,Aa y])),(64,(Ae z)),(65,b),(66,(Aa a)),(67,aa),(68,k),(69,(Aa f)),(70,b),(71,(Aa a)),(72,(Aa (IntKind.wrap .i64 (a-(1))))),(73,ab),(74,l),(75,(Aa g)),(76,(Aa (IntKind.wrap .i64 (f+g)))),(77,(Aa (IntKind.wrap .i64 (Int.tdiv (IntKind.wrap .i64 (f+g)) (2))))),(78,b),(79,(Aa a)),(80,ad),(81,n),(82,(Aa h)),(83,b),(84,(Aa a)),(85,(Aa (IntKind.wrap .i64 (a-(1))))),(86,ae),(87,o),(88,(Aa i)),(89,(Aa (IntKind.wrap .i64 (h+i)))),(90,(Aa (IntKind.wrap .i64 (Int.tdiv (IntKind.wrap .i64 (h+i)) (2))))),(91,p),(12,(AV.ptr 300041 0)),(92,d),(93,(AV.agg [Aa af,Aa ag])),(94,(Aa c)),(96,(Ae (c==(1)))),(95,(Ae (c==(1)))),(98,(Ae (c==(0)))),(97,(Ae (c==(0)))),(99,d),(100,(Aa ay)),(101,(Aa (0)))],Ac ((300041,some ⟨[Aa (0),Aa (0)],51⟩)::(Ac (Ac (Ac (Ac (Ac (Ac (Ac (Ac (Ac (Ac (Ac (Ac (Ac m d65) d66) d67) d69) d70) d71) d73) d74) d75) d77) d78) d79) d81)) d82,300116⟩ (K1 R N0 N1)) else (
N1 ⟨[(0,q),(1,d),(4,(Ae r)),(6,(AV.ptr 100010 0)),(7,(AV.ptr 100011 0)),(8,b),(11,(Aa (IntKind.wrap .i64 (a+(1))))),(17,(Aa s)),(18,(Aa j)),(49,(Aa a)),(50,b),(51,(Aa e)),(52,(Ae (decide (a<e)))),(55,b),(56,(Aa a)),(57,t),(58,(AV.agg [Aa u,Aa v])),(59,b),(60,(Aa a)),(61,(Aa (IntKind.wrap .i64 (a-(1))))),(62,w),(63,(AV.agg [Aa x,Aa y])),(64,(Ae z)),(65,b),(66,(Aa a)),(67,aa),(68,k),(69,(Aa f)),(70,b),(71,(Aa a)),(72,(Aa (IntKind.wrap .i64 (a-(1))))),(73,ab),(74,l),(75,(Aa g)),(76,(Aa (IntKind.wrap .i64 (f+g)))),(77,(Aa (IntKind.wrap .i64 (Int.tdiv (IntKind.wrap .i64 (f+g)) (2))))),(78,b),(79,(Aa a)),(80,ad),(81,n),(82,(Aa h)),(83,b),(84,(Aa a)),(85,(Aa (IntKind.wrap .i64 (a-(1))))),(86,ae),(87,o),(88,(Aa i)),(89,(Aa (IntKind.wrap .i64 (h+i)))),(90,(Aa (IntKind.wrap .i64 (Int.tdiv (IntKind.wrap .i64 (h+i)) (2))))),(91,p),(12,(AV.ptr 300041 0)),(92,d),(93,(AV.agg [Aa af,Aa ag])),(94,(Aa c)),(96,(Ae (c==(1)))),(95,(Ae (c==(1)))),(98,(Ae (c==(0)))),(97,(Ae (c==(0)))),(53,(Aa a)),(54,(Aa (IntKind.wrap .i64 (a+(1)))))],Ac ((300041,some ⟨[Aa (0),Aa (0)],51⟩)::(Ac (Ac (Ac (Ac (Ac (Ac (Ac (Ac (Ac (Ac (Ac (Ac (Ac m d65) d66) d67) d69) d70) d71) d73) d74) d75) d77) d78) d79) d81)) d82,300116⟩))))) else (
N0 ⟨[(0,q),(1,d),(4,(Ae r)),(6,(AV.ptr 100010 0)),(7,(AV.ptr 100011 0)),(8,b),(11,(Aa a)),(17,(Aa s)),(18,(Aa (IntKind.wrap .i64 (j+(1))))),(49,(Aa a)),(50,b),(51,(Aa e)),(52,(Ae (decide (a<e)))),(126,(Aa (IntKind.wrap .i64 (j+(1)))))],m,300006⟩)
theorem eU (a b:AV) (c:Bool) (d:AV) (e f g:Int) (m:Mem) (R:AV→Mem→Prop) (N0 N1:St→Prop):W pg KK 127 0 Kh (Hl a b c d e f g m) (X1 R N0 N1)=Pb a b c d e f g m R N0 N1:=by kernel_rfl
theorem zT (R:AV→Mem→Prop) (N0:St→Prop) {σ:Type} (I:σ→Prop) (a b:σ→AV) (c:σ→Bool) (d:σ→AV) (e f g:σ→Int) (m:σ→Mem) (μ:σ→Nat) (step:∀x,I x→Pb (a x) (b x) (c x) (d x) (e x) (f x) (g x) (m x) R N0 (fun s'=>∃y,I y∧μ y<μ x∧Bb KK 127 0 s' (Hl (a y) (b y) (c y) (d y) (e y) (f y) (g y) (m y)))) (x:σ) (hx:I x) {s:St} (hw:Bb KK 127 0 s (Hl (a x) (b x) (c x) (d x) (e x) (f x) (g x) (m x))):Bu pg KK 127 0 (.loop Kh) s (Ow R N0):=
 Bu.Eh hw (Bu.loops Dl I (fun x=>Hl (a x) (b x) (c x) (d x) (e x) (f x) (g x) (m x)) μ (fun x hx=>(eU (a x) (b x) (c x) (d x) (e x) (f x) (g x) (m x) R N0 _).mpr (step x hx)) x hx)
noncomputable def Ky (k b:AV) (l:Bool) (n:AV) (d o p c a:Int) (m:Mem) (R:AV→Mem→Prop) (N0 N1 N2:St→Prop):Prop:=
bif (decide (a<c)) then (
Gb (Cw 2 b (Aa a)) fun e d92=>
Gb (F2 (Cf (Ac m d92) (A3 e++([]))) 2 e) fun ak d93=>
Da ak fun am c95=>
Af am fun f=>
Af c95 fun g=>
Va pg KK.gl (Ac (Ac m d92) d93) 400009 303 [b,Aa a] fun an d98 ft98=>
Da an fun ao ap=>
Af ao fun h=>
Af ap fun i=>
C4 pg (Cf ((400011,some ⟨[Aa (0),Aa (0)],51⟩)::(400010,some ⟨[Aa (0),Aa (0)],51⟩)::(Ac (Ac (Ac m d92) d93) d98)) (A3 (AV.ptr 400010 0)++(A3 (AV.agg [Aa f,Aa g])++([])))) 51 (AV.ptr 400010 0) (AV.agg [Aa f,Aa g]) fun bs d103=>
C4 pg (Cf (Ac ((400011,some ⟨[Aa (0),Aa (0)],51⟩)::(400010,some ⟨[Aa (0),Aa (0)],51⟩)::(Ac (Ac (Ac m d92) d93) d98)) d103) (A3 (AV.ptr 400011 0)++(A3 (AV.agg [Aa h,Aa i])++([])))) 51 (AV.ptr 400011 0) (AV.agg [Aa h,Aa i]) fun bt d104=>
Hv (D5 [0,0,3,7,0,0,48,0,0,511,1023] [⟨[],[]⟩,⟨[],[]⟩,⟨d92,[]⟩,⟨d93,A3 e++([])⟩,⟨[],[]⟩,⟨[],[]⟩,⟨d98,ft98⟩,⟨[(400010,some ⟨[Aa (0),Aa (0)],51⟩)],[]⟩,⟨[(400011,some ⟨[Aa (0),Aa (0)],51⟩)],[]⟩,⟨d103,A3 (AV.ptr 400010 0)++(A3 (AV.agg [Aa f,Aa g])++([]))⟩,⟨d104,A3 (AV.ptr 400011 0)++(A3 (AV.agg [Aa h,Aa i])++([]))⟩]) (Bg (F2 (Ao (Ac (Ac ((400011,some ⟨[Aa (0),Aa (0)],51⟩)::(400010,some ⟨[Aa (0),Aa (0)],51⟩)::(Ac (Ac (Ac m d92) d93) d98)) d103) d104)) 2 (AV.ptr 400010 0)) fun aq=>
Da aq fun ar au=>
Af ar fun q=>
Af au fun r=>
Bg (F2 (Ao (Ac (Ac ((400011,some ⟨[Aa (0),Aa (0)],51⟩)::(400010,some ⟨[Aa (0),Aa (0)],51⟩)::(Ac (Ac (Ac m d92) d93) d98)) d103) d104)) 2 (AV.ptr 400011 0)) fun av=>
Da av fun aw ax=>
Af aw fun s=>
Af ax fun t=>
Bg (F2 (Ao (Ac (Ac ((400011,some ⟨[Aa (0),Aa (0)],51⟩)::(400010,some ⟨[Aa (0),Aa (0)],51⟩)::(Ac (Ac (Ac m d92) d93) d98)) d103) d104)) 2 (AV.ptr 300041 0)) fun ay=>
Da ay fun az ba=>
Af az fun u=>
Af ba fun v=>
Bj pg KK.gl (Ac (Ac ((400011,some ⟨[Aa (0),Aa (0)],51⟩)::(400010,some ⟨[Aa (0),Aa (0)],51⟩)::(Ac (Ac (Ac m d92) d93) d98)) d103) d104) 309 [AV.agg [Aa q,Aa r],AV.agg [Aa s,Aa t],AV.agg [Aa u,Aa v]] fun bb=>
Iv bb fun w=>
bif w then (
Bg (F2 (Ao (Ac (Ac ((400011,some ⟨[Aa (0),Aa (0)],51⟩)::(400010,some ⟨[Aa (0),Aa (0)],51⟩)::(Ac (Ac (Ac m d92) d93) d98)) d103) d104)) 2 (AV.ptr 100011 0)) fun bc=>
Da bc fun bd vY=>
Af bd fun x=>
Af vY fun y=>
Bg (F2 (Ao (Ac (Ac ((400011,some ⟨[Aa (0),Aa (0)],51⟩)::(400010,some ⟨[Aa (0),Aa (0)],51⟩)::(Ac (Ac (Ac m d92) d93) d98)) d103) d104)) 2 (AV.ptr 100010 0)) fun be=>
Da be fun bf bg=>
Af bf fun z=>
Af bg fun aa=>
Bj pg KK.gl (Ac (Ac ((400011,some ⟨[Aa (0),Aa (0)],51⟩)::(400010,some ⟨[Aa (0),Aa (0)],51⟩)::(Ac (Ac (Ac m d92) d93) d98)) d103) d104) 249 [AV.agg [Aa x,Aa y],AV.agg [Aa z,Aa aa]] fun bh=>
Da bh fun bi bj=>
Af bi fun ab=>
Af bj fun ad=>
Bg (F2 (Ao (Ac (Ac ((400011,some ⟨[Aa (0),Aa (0)],51⟩)::(400010,some ⟨[Aa (0),Aa (0)],51⟩)::(Ac (Ac (Ac m d92) d93) d98)) d103) d104)) 2 (AV.ptr 400011 0)) fun bk=>
Da bk fun bl bm=>
Af bl fun ae=>
Af bm fun af=>
Bg (F2 (Ao (Ac (Ac ((400011,some ⟨[Aa (0),Aa (0)],51⟩)::(400010,some ⟨[Aa (0),Aa (0)],51⟩)::(Ac (Ac (Ac m d92) d93) d98)) d103) d104)) 2 (AV.ptr 400010 0)) fun bn=>
Da bn fun Ga Aj9=>
Af Ga fun ag=>
Af Aj9 fun ah=>
Bj pg KK.gl (Ac (Ac ((400011,some ⟨[Aa (0),Aa (0)],51⟩)::(400010,some ⟨[Aa (0),Aa (0)],51⟩)::(Ac (Ac (Ac m d92) d93) d98)) d103) d104) 249 [AV.agg [Aa ae,Aa af],AV.agg [Aa ag,Aa ah]] fun bo=>
Da bo fun bp bq=>
Af bp fun ai=>
Af bq fun aj=>
Bj pg KK.gl (Ac (Ac ((400011,some ⟨[Aa (0),Aa (0)],51⟩)::(400010,some ⟨[Aa (0),Aa (0)],51⟩)::(Ac (Ac (Ac m d92) d93) d98)) d103) d104) 328 [AV.agg [Aa ab,Aa ad],AV.agg [Aa ai,Aa aj]] fun br=>
Af br fun j=>
bif (decide (j>(0))) then (
A8 R (Ac (Ac ((400011,some ⟨[Aa (0),Aa (0)],51⟩)::(400010,some ⟨[Aa (0),Aa (0)],51⟩)::(Ac (Ac (Ac m d92) d93) d98)) d103) d104) [some (Ae true)]) else (
N2 ⟨[(0,k),(1,b),(4,(Ae l)),(6,(AV.ptr 100010 0)),(7,(AV.ptr 100011 0)),(8,n),(11,(Aa d)),(12,(AV.ptr 300041 0)),(17,(Aa o)),(18,(Aa p)),(100,(Aa c)),(101,(Aa (IntKind.wrap .i64 (a+(1))))),(102,(Ae (decide (a<c)))),(103,(Aa a)),(13,(Aa a)),(104,b),(105,(Aa a)),(106,e),(107,(AV.agg [Aa f,Aa g])),(108,b),(109,(Aa a)),(110,(AV.agg [Aa h,Aa i])),(14,(AV.ptr 400010 0)),(15,(AV.ptr 400011 0)),(111,(AV.agg [Aa q,Aa r])),(112,(AV.agg [Aa s,Aa t])),(113,(AV.agg [Aa u,Aa v])),(114,(Ae w)),(115,(Ae true)),(116,(AV.agg [Aa x,Aa y])),(117,(AV.agg [Aa z,Aa aa])),(118,(AV.agg [Aa ab,Aa ad])),(119,(AV.agg [Aa ae,Aa af])),(120,(AV.agg [Aa ag,Aa ah])),(121,(AV.agg [Aa ai,Aa aj])),(122,(Aa j)),(123,(Ae (decide (j>(0))))),(124,(Ae (decide (j>(0))))),(125,(Aa (IntKind.wrap .i64 (a+(1)))))],Ac (Ac ((400011,some ⟨[Aa (0),Aa (0)],51⟩)::(400010,some ⟨[Aa (0),Aa (0)],51⟩)::(Ac (Ac (Ac m d92) d93) d98)) d103) d104,400030⟩)) else (
N2 ⟨[(0,k),(1,b),(4,(Ae l)),(6,(AV.ptr 100010 0)),(7,(AV.ptr 100011 0)),(8,n),(11,(Aa d)),(12,(AV.ptr 300041 0)),(17,(Aa o)),(18,(Aa p)),(100,(Aa c)),(101,(Aa (IntKind.wrap .i64 (a+(1))))),(102,(Ae (decide (a<c)))),(103,(Aa a)),(13,(Aa a)),(104,b),(105,(Aa a)),(106,e),(107,(AV.agg [Aa f,Aa g])),(108,b),(109,(Aa a)),(110,(AV.agg [Aa h,Aa i])),(14,(AV.ptr 400010 0)),(15,(AV.ptr 400011 0)),(111,(AV.agg [Aa q,Aa r])),(112,(AV.agg [Aa s,Aa t])),(113,(AV.agg [Aa u,Aa v])),(114,(Ae w)),(115,(Ae false)),(116,(AV.Bn [])),(117,(AV.Bn [])),(118,(AV.Bn [])),(119,(AV.Bn [])),(120,(AV.Bn [])),(121,(AV.Bn [])),(122,(AV.Bn [])),(123,(AV.Bn [])),(124,(Ae false)),(125,(Aa (IntKind.wrap .i64 (a+(1)))))],Ac (Ac ((400011,some ⟨[Aa (0),Aa (0)],51⟩)::(400010,some ⟨[Aa (0),Aa (0)],51⟩)::(Ac (Ac (Ac m d92) d93) d98)) d103) d104,400030⟩))) else (
N1 ⟨[(0,k),(1,b),(4,(Ae l)),(6,(AV.ptr 100010 0)),(7,(AV.ptr 100011 0)),(8,n),(11,(Aa (IntKind.wrap .i64 (d+(1))))),(12,(AV.ptr 300041 0)),(17,(Aa o)),(18,(Aa p)),(100,(Aa c)),(101,(Aa a)),(102,(Ae (decide (a<c)))),(53,(Aa d)),(54,(Aa (IntKind.wrap .i64 (d+(1)))))],m,400004⟩)
theorem Wg (a b:AV) (c:Bool) (d:AV) (e f g h i:Int) (m:Mem) (R:AV→Mem→Prop) (N0 N1 N2:St→Prop):W pg KK 127 0 Ks (Hd a b c d e f g h i m) (fO R N0 N1 N2)=Ky a b c d e f g h i m R N0 N1 N2:=by kernel_rfl
theorem jO (R:AV→Mem→Prop) (N0 N1:St→Prop) {σ:Type} (I:σ→Prop) (a b:σ→AV) (c:σ→Bool) (d:σ→AV) (e f g h i:σ→Int) (m:σ→Mem) (μ:σ→Nat) (step:∀x,I x→Ky (a x) (b x) (c x) (d x) (e x) (f x) (g x) (h x) (i x) (m x) R N0 N1 (fun s'=>∃y,I y∧μ y<μ x∧Bb KK 127 0 s' (Hd (a y) (b y) (c y) (d y) (e y) (f y) (g y) (h y) (i y) (m y)))) (x:σ) (hx:I x) {s:St} (hw:Bb KK 127 0 s (Hd (a x) (b x) (c x) (d x) (e x) (f x) (g x) (h x) (i x) (m x))):Bu pg KK 127 0 (.loop Ks) s (K1 R N0 N1):=
 Bu.Eh hw (Bu.loops Dl I (fun x=>Hd (a x) (b x) (c x) (d x) (e x) (f x) (g x) (h x) (i x) (m x)) μ (fun x hx=>(Wg (a x) (b x) (c x) (d x) (e x) (f x) (g x) (h x) (i x) (m x) R N0 N1 _).mpr (step x hx)) x hx)
noncomputable def Aha (a b:AV) (R:AV→Mem→Prop):Prop:=
Bg (Cn a) fun c=>
Af c fun d=>
Bu pg KK 127 0 (.loop Ly) ⟨[(0,a),(1,b),(4,(Ae false)),(16,a),(17,(Aa d)),(18,(Aa (0)))],[],4⟩ (Yr R)
theorem wV (a b:AV) (R:AV→Mem→Prop) (h:Aha a b R):Own pg KK.gl 308 [a,b] R:=Bc Dl Tryz.func308 (code:=Akk) Bf Bf Bf (X:=Aha a b R) Bf h
noncomputable def vU:Code:=((Tryz.f251).body).getD .skip
noncomputable def Amy (R:AV→Mem→Prop):A4→St→Prop:=Cr pg Tryz.f251 R
noncomputable def bA:Code:=C0 vU 0
noncomputable def aV (R:AV→Mem→Prop):A4→St→Prop:=Cy pg KK 64 0 vU 0 (Amy R)
noncomputable def Abr (R:AV→Mem→Prop) (N0:St→Prop):A4→St→Prop:=Cz N0 (aV R)
def Sb (a b:AV) (c:Bool) (d:Int) (e:AV) (f g:Int) (m:Mem):St:=⟨[(0,a),(1,b),(4,(Ae c)),(5,(Aa d)),(13,e),(14,(Aa f)),(15,(Aa g))],m,100000⟩
noncomputable def Ri:Code:=C0 vU 1
noncomputable def Zi (R:AV→Mem→Prop):A4→St→Prop:=Cy pg KK 64 0 vU 1 (Amy R)
noncomputable def oQ (R:AV→Mem→Prop) (N0:St→Prop):A4→St→Prop:=Cz N0 (Zi R)
def Lo (a b:AV) (c:Bool) (d e f:Int) (m:Mem):St:=⟨[(0,a),(1,b),(4,(Ae c)),(5,(Aa d)),(26,(Aa e)),(27,(Aa f))],m,200000⟩
noncomputable def Pg:Code:=C0 Ri 0
noncomputable def P9 (R:AV→Mem→Prop) (N0:St→Prop):A4→St→Prop:=Cy pg KK 64 0 Ri 0 (oQ R N0)
noncomputable def qR (R:AV→Mem→Prop) (N0 N1:St→Prop):A4→St→Prop:=Cz N1 (P9 R N0)
def J9 (a b:AV) (c:Bool) (d e f g h i:Int) (m:Mem):St:=⟨[(0,a),(1,b),(4,(Ae c)),(5,(Aa d)),(9,(Aa e)),(26,(Aa f)),(27,(Aa g)),(31,(Aa h)),(32,(Aa i))],m,300000⟩
noncomputable def bM (d g:AV) (h:Bool) (i:Int) (f:AV) (c a:Int) (m:Mem) (R:AV→Mem→Prop) (N0:St→Prop):Prop:=
bif (decide (a<c)) then (
Bg (Cw 1 f (Aa a)) fun j=>
Bg (Ff (Ao m) j) fun e=>
Bj pg KK.gl m 250 [e] fun k=>
Af k fun b=>
bif (b !=(0)) then (
A8 R m [some (Ae false),some (Aa b)]) else (
N0 ⟨[(0,d),(1,g),(4,(Ae h)),(5,(Aa i)),(13,f),(14,(Aa c)),(15,(Aa (IntKind.wrap .i64 (a+(1))))),(16,(Ae (decide (a<c)))),(17,j),(18,e),(7,e),(19,e),(20,(Aa b)),(8,(Aa b)),(21,(Aa b)),(22,(Ae (b !=(0)))),(24,(Aa (IntKind.wrap .i64 (a+(1)))))],m,100074⟩)) else (
Bg (Cn d) fun l=>
Af l fun n=>
Bu pg KK 64 0 (.loop Ri) ⟨[(0,d),(1,g),(4,(Ae h)),(5,(Aa i)),(13,f),(14,(Aa c)),(15,(Aa a)),(16,(Ae (decide (a<c)))),(25,d),(26,(Aa n)),(27,(Aa (0)))],m,100004⟩ (Zi R))
theorem qG (a b:AV) (c:Bool) (d:Int) (e:AV) (f g:Int) (m:Mem) (R:AV→Mem→Prop) (N0:St→Prop):W pg KK 64 0 bA (Sb a b c d e f g m) (Abr R N0)=bM a b c d e f g m R N0:=by kernel_rfl
theorem Ala (R:AV→Mem→Prop) {σ:Type} (I:σ→Prop) (a b:σ→AV) (c:σ→Bool) (d:σ→Int) (e:σ→AV) (f g:σ→Int) (m:σ→Mem) (μ:σ→Nat) (step:∀x,I x→bM (a x) (b x) (c x) (d x) (e x) (f x) (g x) (m x) R (fun s'=>∃y,I y∧μ y<μ x∧Bb KK 64 0 s' (Sb (a y) (b y) (c y) (d y) (e y) (f y) (g y) (m y)))) (x:σ) (hx:I x) {s:St} (hw:Bb KK 64 0 s (Sb (a x) (b x) (c x) (d x) (e x) (f x) (g x) (m x))):Bu pg KK 64 0 (.loop bA) s (aV R):=
 Bu.Eh hw (Bu.loops Dl I (fun x=>Sb (a x) (b x) (c x) (d x) (e x) (f x) (g x) (m x)) μ (fun x hx=>(qG (a x) (b x) (c x) (d x) (e x) (f x) (g x) (m x) R _).mpr (step x hx)) x hx)
noncomputable def Zc (d b:AV) (g:Bool) (h c a:Int) (m:Mem) (R:AV→Mem→Prop) (N0:St→Prop):Prop:=
bif (decide (a<c)) then (
Bg (Cn b) fun i=>
Af i fun j=>
Bu pg KK 64 0 (.loop Pg) ⟨[(0,d),(1,b),(4,(Ae g)),(5,(Aa h)),(26,(Aa c)),(27,(Aa a)),(28,(Ae (decide (a<c)))),(29,(Aa a)),(9,(Aa a)),(30,b),(31,(Aa j)),(32,(Aa (0)))],m,200006⟩ (P9 R N0)) else (
Bj pg KK.gl m 307 [d] fun e=>
Bj pg KK.gl m 307 [b] fun f=>
Bj pg KK.gl m 308 [e,f] fun k=>
Iv k fun l=>
bif l then (
A8 R m [some (Ae true),some (Aa (0))]) else (
Bj pg KK.gl m 308 [f,e] fun n=>
Iv n fun o=>
A8 R m [some (Ae o),some (Aa (0))]))
theorem pD (a b:AV) (c:Bool) (d e f:Int) (m:Mem) (R:AV→Mem→Prop) (N0:St→Prop):W pg KK 64 0 Ri (Lo a b c d e f m) (oQ R N0)=Zc a b c d e f m R N0:=by kernel_rfl
theorem Aj1 (R:AV→Mem→Prop) {σ:Type} (I:σ→Prop) (a b:σ→AV) (c:σ→Bool) (d e f:σ→Int) (m:σ→Mem) (μ:σ→Nat) (step:∀x,I x→Zc (a x) (b x) (c x) (d x) (e x) (f x) (m x) R (fun s'=>∃y,I y∧μ y<μ x∧Bb KK 64 0 s' (Lo (a y) (b y) (c y) (d y) (e y) (f y) (m y)))) (x:σ) (hx:I x) {s:St} (hw:Bb KK 64 0 s (Lo (a x) (b x) (c x) (d x) (e x) (f x) (m x))):Bu pg KK 64 0 (.loop Ri) s (Zi R):=
 Bu.Eh hw (Bu.loops Dl I (fun x=>Lo (a x) (b x) (c x) (d x) (e x) (f x) (m x)) μ (fun x hx=>(pD (a x) (b x) (c x) (d x) (e x) (f x) (m x) R _).mpr (step x hx)) x hx)
noncomputable def O6 (b c:AV) (g:Bool) (h d i f e a:Int) (m:Mem) (R:AV→Mem→Prop) (N0 N1:St→Prop):Prop:=
bif (decide (a<e)) then (
Bg (Cw 2 b (Aa d)) fun j=>
Bg (F2 (Ao m) 2 j) fun v=>
Da v fun Ll w=>
Af Ll fun k=>
Af w fun l=>
Bj pg KK.gl m 303 [b,Aa d] fun x=>
Da x fun y z=>
Af y fun n=>
Af z fun o=>
Bg (Cw 2 c (Aa a)) fun p=>
Bg (F2 (Ao m) 2 p) fun aa=>
Da aa fun ab ad=>
Af ab fun q=>
Af ad fun r=>
Bj pg KK.gl m 303 [c,Aa a] fun ae=>
Da ae fun af ag=>
Af af fun s=>
Af ag fun t=>
Bj pg KK.gl m 306 [AV.agg [Aa k,Aa l],AV.agg [Aa n,Aa o],AV.agg [Aa q,Aa r],AV.agg [Aa s,Aa t]] fun ah=>
Iv ah fun u=>
bif u then (
A8 R m [some (Ae true),some (Aa (0))]) else (
N1 ⟨[(0,b),(1,c),(4,(Ae g)),(5,(Aa h)),(9,(Aa d)),(26,(Aa i)),(27,(Aa f)),(31,(Aa e)),(32,(Aa (IntKind.wrap .i64 (a+(1))))),(33,(Ae (decide (a<e)))),(34,(Aa a)),(10,(Aa a)),(35,b),(36,(Aa d)),(37,j),(38,(AV.agg [Aa k,Aa l])),(39,b),(40,(Aa d)),(41,(AV.agg [Aa n,Aa o])),(42,c),(43,(Aa a)),(44,p),(45,(AV.agg [Aa q,Aa r])),(46,c),(47,(Aa a)),(48,(AV.agg [Aa s,Aa t])),(49,(Ae u)),(50,(Aa (IntKind.wrap .i64 (a+(1)))))],m,300020⟩)) else (
N0 ⟨[(0,b),(1,c),(4,(Ae g)),(5,(Aa h)),(9,(Aa d)),(26,(Aa i)),(27,(Aa (IntKind.wrap .i64 (f+(1))))),(31,(Aa e)),(32,(Aa a)),(33,(Ae (decide (a<e)))),(51,(Aa (IntKind.wrap .i64 (f+(1)))))],m,300003⟩)
theorem dU (a b:AV) (c:Bool) (d e f g h i:Int) (m:Mem) (R:AV→Mem→Prop) (N0 N1:St→Prop):W pg KK 64 0 Pg (J9 a b c d e f g h i m) (qR R N0 N1)=O6 a b c d e f g h i m R N0 N1:=by kernel_rfl
theorem vL (R:AV→Mem→Prop) (N0:St→Prop) {σ:Type} (I:σ→Prop) (a b:σ→AV) (c:σ→Bool) (d e f g h i:σ→Int) (m:σ→Mem) (μ:σ→Nat) (step:∀x,I x→O6 (a x) (b x) (c x) (d x) (e x) (f x) (g x) (h x) (i x) (m x) R N0 (fun s'=>∃y,I y∧μ y<μ x∧Bb KK 64 0 s' (J9 (a y) (b y) (c y) (d y) (e y) (f y) (g y) (h y) (i y) (m y)))) (x:σ) (hx:I x) {s:St} (hw:Bb KK 64 0 s (J9 (a x) (b x) (c x) (d x) (e x) (f x) (g x) (h x) (i x) (m x))):Bu pg KK 64 0 (.loop Pg) s (P9 R N0):=
 Bu.Eh hw (Bu.loops Dl I (fun x=>J9 (a x) (b x) (c x) (d x) (e x) (f x) (g x) (h x) (i x) (m x)) μ (fun x hx=>(dU (a x) (b x) (c x) (d x) (e x) (f x) (g x) (h x) (i x) (m x) R N0 _).mpr (step x hx)) x hx)
noncomputable def Acq (a b:AV) (R:AV→Mem→Prop):Prop:=
Ia (kT 4 314 1 2 [AV.Bp] [(0,a),(1,b)]) [] fun c d=>
Bg (Cn c) fun e=>
Af e fun f=>
Bu pg KK 64 0 (.loop bA) ⟨[(0,a),(1,b),(4,(Ae false)),(5,(Aa (0))),(11,a),(12,b),(13,c),(14,(Aa f)),(15,(Aa (0)))],d,7⟩ (aV R)
theorem xJ (a b:AV) (R:AV→Mem→Prop) (h:Acq a b R):Own pg KK.gl 251 [a,b] R:=Bc Dl Tryz.func251 (code:=vU) Bf Bf Bf (X:=Acq a b R) Bf h
noncomputable def Aks:Code:=((Tryz.f196).body).getD .skip
noncomputable def Aov (R:AV→Mem→Prop):A4→St→Prop:=Cr pg Tryz.f196 R
noncomputable def bE:Code:=C0 Aks 0
noncomputable def bP (R:AV→Mem→Prop):A4→St→Prop:=Cy pg KK 52 0 Aks 0 (Aov R)
noncomputable def Afa (R:AV→Mem→Prop) (N0:St→Prop):A4→St→Prop:=Cz N0 (bP R)
def Sc (a:Bool) (b:Int) (c:AV) (d e:Int) (m:Mem):St:=⟨[(2,(AV.ptr 0 0)),(3,(AV.ptr 1 0)),(4,(Ae a)),(5,(Aa b)),(13,c),(14,(Aa d)),(15,(Aa e))],m,100000⟩
noncomputable def Zm (i:Bool) (j:Int) (g:AV) (f d:Int) (m:Mem) (R:AV→Mem→Prop) (N0:St→Prop):Prop:=
bif (decide (d<f)) then (
Bg (Cw 3 g (Aa d)) fun h=>
Bg (F2 (Ao m) 3 h) fun k=>
qB k fun c5 l c7=>
Af l fun a=>
Af c7 fun b=>
Hv (B7 c5)<|Bj pg KK.gl ((100003,some ⟨[c5,Aa a,Aa b],316⟩)::(100003,some ⟨[AV.Bp,Aa (0),Aa (0)],316⟩)::m) 193 [AV.agg [c5,Aa a,Aa b]] fun n=>
Af n fun c=>
bif (c !=(0)) then (
A8 R ((100003,some ⟨[c5,Aa a,Aa b],316⟩)::(100003,some ⟨[AV.Bp,Aa (0),Aa (0)],316⟩)::m) [some (Ae false),some (Aa c)]) else (
N0 ⟨[(2,(AV.ptr 0 0)),(3,(AV.ptr 1 0)),(4,(Ae i)),(5,(Aa j)),(13,g),(14,(Aa f)),(15,(Aa (IntKind.wrap .i64 (d+(1))))),(16,(Ae (decide (d<f)))),(17,h),(18,(AV.agg [c5,Aa a,Aa b])),(7,(AV.ptr 100003 0)),(19,(AV.agg [c5,Aa a,Aa b])),(20,(Aa c)),(8,(Aa c)),(21,(Aa c)),(22,(Ae (c !=(0)))),(24,(Aa (IntKind.wrap .i64 (d+(1)))))],((100003,some ⟨[c5,Aa a,Aa b],316⟩)::(100003,some ⟨[AV.Bp,Aa (0),Aa (0)],316⟩)::m),100075⟩)) else (
Bg (Ff (Ao m) (AV.ptr 0 0)) fun o=>
Bg (Ff (Ao m) (AV.ptr 1 0)) fun p=>
Bj pg KK.gl m 251 [o,p] fun q=>
H5 q fun Jl gY=>
Iv Jl fun r=>
Af gY fun e=>
bif (e==(0)) then (
bif r then (
Bg (Ff (Ao m) (AV.ptr 0 1)) fun s=>
Af s fun t=>
Bg (Ff (Ao m) (AV.ptr 1 1)) fun u=>
Af u fun v=>
Bg (Cv pg (.call ⟨.builtin .max,#[.tmp 0,.tmp 1],#[3,3]⟩) 3 [Aa t,Aa v] (Ao m) 100084) fun w=>
Af w fun x=>
Bg (Ff (Ao m) (AV.ptr 0 2)) fun y=>
Af y fun z=>
Bg (Ff (Ao m) (AV.ptr 1 2)) fun aa=>
Af aa fun ab=>
Bg (Cv pg (.call ⟨.builtin .min,#[.tmp 0,.tmp 1],#[3,3]⟩) 3 [Aa z,Aa ab] (Ao m) 100089) fun ad=>
Af ad fun ae=>
A8 R m [some (Ae (decide (x<ae))),some (Aa e)]) else (
A8 R m [some (Ae false),some (Aa e)])) else (
A8 R m [some (Ae false),some (Aa e)]))
theorem tQ (a:Bool) (b:Int) (c:AV) (d e:Int) (m:Mem) (R:AV→Mem→Prop) (N0:St→Prop):W pg KK 52 0 bE (Sc a b c d e m) (Afa R N0)=Zm a b c d e m R N0:=by kernel_rfl
theorem Aj7 (R:AV→Mem→Prop) {σ:Type} (I:σ→Prop) (a:σ→Bool) (b:σ→Int) (c:σ→AV) (d e:σ→Int) (m:σ→Mem) (μ:σ→Nat) (step:∀x,I x→Zm (a x) (b x) (c x) (d x) (e x) (m x) R (fun s'=>∃y,I y∧μ y<μ x∧Bb KK 52 0 s' (Sc (a y) (b y) (c y) (d y) (e y) (m y)))) (x:σ) (hx:I x) {s:St} (hw:Bb KK 52 0 s (Sc (a x) (b x) (c x) (d x) (e x) (m x))):Bu pg KK 52 0 (.loop bE) s (bP R):=
 Bu.Eh hw (Bu.loops Dl I (fun x=>Sc (a x) (b x) (c x) (d x) (e x) (m x)) μ (fun x hx=>(tQ (a x) (b x) (c x) (d x) (e x) (m x) R _).mpr (step x hx)) x hx)
noncomputable def Ag8 (a:AV) (c d:Int) (b:AV) (e f:Int) (R:AV→Mem→Prop):Prop:=
Hv (B7 a)<|Hv (B7 b)<|Ia (kT 6 316 3 2 [AV.Bp,Aa (0),Aa (0)] [(0,(AV.agg [a,Aa c,Aa d])),(1,(AV.agg [b,Aa e,Aa f]))]) ((1,some ⟨[b,Aa e,Aa f],316⟩)::(0,some ⟨[a,Aa c,Aa d],316⟩)::[]) fun g h=>
Bg (Cn g) fun i=>
Af i fun j=>
Bu pg KK 52 0 (.loop bE) ⟨[(0,(AV.agg [a,Aa c,Aa d])),(1,(AV.agg [b,Aa e,Aa f])),(2,(AV.ptr 0 0)),(3,(AV.ptr 1 0)),(4,(Ae false)),(5,(Aa (0))),(11,(AV.agg [a,Aa c,Aa d])),(12,(AV.agg [b,Aa e,Aa f])),(13,g),(14,(Aa j)),(15,(Aa (0)))],h,9⟩ (bP R)
theorem zO (a:AV) (b c:Int) (d:AV) (e f:Int) (R:AV→Mem→Prop) (h:Ag8 a b c d e f R):Own pg KK.gl 196 [AV.agg [a,Aa b,Aa c],AV.agg [d,Aa e,Aa f]] R:=Bc Dl Tryz.func196 (code:=Aks) Bf Bf Bf (X:=Ag8 a b c d e f R) Bf h
noncomputable def xQ:Code:=((Tryz.f119).body).getD .skip
noncomputable def Alr (R:AV→Mem→Prop):A4→St→Prop:=Cr pg Tryz.f119 R
noncomputable def R5:Code:=C0 xQ 0
noncomputable def aN (R:AV→Mem→Prop):A4→St→Prop:=Cy pg KK 87 0 xQ 0 (Alr R)
noncomputable def nE (R:AV→Mem→Prop) (N0:St→Prop):A4→St→Prop:=Cz N0 (aN R)
def Mg (a:AV) (b:Int) (c d:AV) (e f:Int) (m:Mem):St:=⟨[(0,a),(2,(Aa b)),(3,c),(18,d),(19,(Aa e)),(20,(Aa f))],m,100000⟩
noncomputable def Ot:Code:=C0 R5 0
noncomputable def Qt (R:AV→Mem→Prop) (N0:St→Prop):A4→St→Prop:=Cy pg KK 87 0 R5 0 (nE R N0)
noncomputable def pR (R:AV→Mem→Prop) (N0 N1:St→Prop):A4→St→Prop:=Cz N1 (Qt R N0)
def J7 (a:AV) (b:Int) (c:AV) (d:Int) (e:AV) (f g:Int) (h:AV) (i j:Int) (k:ByteArray) (l:AV) (m:Mem):St:=⟨[(0,a),(2,(Aa b)),(3,c),(4,(Aa d)),(5,(AV.ptr 100004 0)),(18,e),(19,(Aa f)),(20,(Aa g)),(41,h),(42,(Aa i)),(43,(Aa j))],((100004,some ⟨[AV.sc (.string k),l],32⟩)::m),200000⟩
noncomputable def Sd:Code:=C0 xQ 1
noncomputable def aB (R:AV→Mem→Prop):A4→St→Prop:=Cy pg KK 87 0 xQ 1 (Alr R)
noncomputable def oA (R:AV→Mem→Prop) (N0:St→Prop):A4→St→Prop:=Cz N0 (aB R)
def Mp (a:Int) (b c:AV) (d e:Int) (m:Mem):St:=⟨[(2,(Aa a)),(3,b),(63,c),(64,(Aa d)),(65,(Aa e))],m,200000⟩
noncomputable def Oq:Code:=C0 Sd 0
noncomputable def Pq (R:AV→Mem→Prop) (N0:St→Prop):A4→St→Prop:=Cy pg KK 87 0 Sd 0 (oA R N0)
noncomputable def rC (R:AV→Mem→Prop) (N0 N1:St→Prop):A4→St→Prop:=Cz N1 (Pq R N0)
def Ki (a:Int) (b c:AV) (d e:Int) (f:AV) (g h:Int) (i:AV) (j k:Int) (m:Mem):St:=⟨[(2,(Aa a)),(3,b),(10,(AV.ptr 200004 0)),(63,c),(64,(Aa d)),(65,(Aa e)),(72,f),(73,(Aa g)),(74,(Aa h))],((200004,some ⟨[i,Aa j,Aa k],316⟩)::m),300000⟩
noncomputable def aJ (h:AV) (i:Int) (c g:AV) (b a:Int) (m:Mem) (R:AV→Mem→Prop) (N0:St→Prop):Prop:=
bif (decide (a<b)) then (
Bg (Cw 2 g (Aa a)) fun j=>
Bg (F2 (Ao m) 2 j) fun k=>
Da k fun l c7=>
Ei l fun s8=>
Hv (B7 c7)<|Bj pg KK.gl ((100004,some ⟨[AV.sc (.string s8),c7],32⟩)::(100004,some ⟨[AV.sc (.string ⟨#[]⟩),AV.Bp],32⟩)::m) 192 [AV.sc (.string s8)] fun n=>
Iv n fun d=>
bif (!d) then (
A8 R ((100004,some ⟨[AV.sc (.string s8),c7],32⟩)::(100004,some ⟨[AV.sc (.string ⟨#[]⟩),AV.Bp],32⟩)::m) [some (Aa (3))]) else (
Bg (Cn c7) fun o=>
Af o fun e=>
bif (e==(0)) then (
A8 R ((100004,some ⟨[AV.sc (.string s8),c7],32⟩)::(100004,some ⟨[AV.sc (.string ⟨#[]⟩),AV.Bp],32⟩)::m) [some (Aa (8))]) else (
Bg (Cn c7) fun p=>
Af p fun f=>
bif (decide (f>(4))) then (
A8 R ((100004,some ⟨[AV.sc (.string s8),c7],32⟩)::(100004,some ⟨[AV.sc (.string ⟨#[]⟩),AV.Bp],32⟩)::m) [some (Aa (2))]) else (
Bg (Cn c7) fun q=>
Af q fun r=>
Bu pg KK 87 0 (.loop Ot) ⟨[(0,h),(2,(Aa i)),(3,c),(18,g),(19,(Aa b)),(20,(Aa a)),(21,(Ae (decide (a<b)))),(22,(Aa a)),(23,j),(24,(AV.agg [AV.sc (.string s8),c7])),(5,(AV.ptr 100004 0)),(4,(Aa a)),(26,(AV.ptr 100004 0)),(27,(AV.sc (.string s8))),(28,(Ae d)),(29,(Ae (!d))),(25,(Ae (!d))),(31,(AV.ptr 100004 1)),(32,c7),(33,(Aa e)),(34,(Ae (e==(0)))),(30,(Ae (e==(0)))),(36,(AV.ptr 100004 1)),(37,c7),(38,(Aa f)),(39,(Ae (decide (f>(4))))),(35,(Ae (decide (f>(4))))),(40,(AV.ptr 100004 1)),(41,c7),(42,(Aa r)),(43,(Aa (0)))],((100004,some ⟨[AV.sc (.string s8),c7],32⟩)::(100004,some ⟨[AV.sc (.string ⟨#[]⟩),AV.Bp],32⟩)::m),100089⟩ (Qt R N0))))) else (
Bg (Cn c) fun s=>
Af s fun t=>
Bu pg KK 87 0 (.loop Sd) ⟨[(0,h),(2,(Aa i)),(3,c),(18,g),(19,(Aa b)),(20,(Aa a)),(21,(Ae (decide (a<b)))),(63,c),(64,(Aa t)),(65,(Aa (0)))],m,100004⟩ (aB R))
theorem rI (a:AV) (b:Int) (c d:AV) (e f:Int) (m:Mem) (R:AV→Mem→Prop) (N0:St→Prop):W pg KK 87 0 R5 (Mg a b c d e f m) (nE R N0)=aJ a b c d e f m R N0:=by kernel_rfl
theorem Ajs (R:AV→Mem→Prop) {σ:Type} (I:σ→Prop) (a:σ→AV) (b:σ→Int) (c d:σ→AV) (e f:σ→Int) (m:σ→Mem) (μ:σ→Nat) (step:∀x,I x→aJ (a x) (b x) (c x) (d x) (e x) (f x) (m x) R (fun s'=>∃y,I y∧μ y<μ x∧Bb KK 87 0 s' (Mg (a y) (b y) (c y) (d y) (e y) (f y) (m y)))) (x:σ) (hx:I x) {s:St} (hw:Bb KK 87 0 s (Mg (a x) (b x) (c x) (d x) (e x) (f x) (m x))):Bu pg KK 87 0 (.loop R5) s (aN R):=
 Bu.Eh hw (Bu.loops Dl I (fun x=>Mg (a x) (b x) (c x) (d x) (e x) (f x) (m x)) μ (fun x hx=>(rI (a x) (b x) (c x) (d x) (e x) (f x) (m x) R _).mpr (step x hx)) x hx)
noncomputable def P0 (i:AV) (o:Int) (k:AV) (j:Int) (p:AV) (q l:Int) (n:AV) (h c:Int) (b:ByteArray) (a:AV) (m:Mem) (R:AV→Mem→Prop) (N0 N1:St→Prop):Prop:=
bif (decide (c<h)) then (
Bg (Cw 3 n (Aa c)) fun r=>
Bg (F2 (Ao ((100004,some ⟨[AV.sc (.string b),a],32⟩)::m)) 3 r) fun v=>
qB v fun d w x=>
Af w fun e=>
Af x fun f=>
Hv (B7 d)<|Bj pg KK.gl ((200003,some ⟨[d,Aa e,Aa f],316⟩)::(200003,some ⟨[AV.Bp,Aa (0),Aa (0)],316⟩)::(100004,some ⟨[AV.sc (.string b),a],32⟩)::m) 193 [AV.agg [d,Aa e,Aa f]] fun y=>
Af y fun g=>
bif (g !=(0)) then (
A8 R ((200003,some ⟨[d,Aa e,Aa f],316⟩)::(200003,some ⟨[AV.Bp,Aa (0),Aa (0)],316⟩)::(100004,some ⟨[AV.sc (.string b),a],32⟩)::m) [some (Aa g)]) else (
N1 ⟨[(0,i),(2,(Aa o)),(3,k),(4,(Aa j)),(5,(AV.ptr 100004 0)),(18,p),(19,(Aa q)),(20,(Aa l)),(41,n),(42,(Aa h)),(43,(Aa (IntKind.wrap .i64 (c+(1))))),(44,(Ae (decide (c<h)))),(45,r),(46,(AV.agg [d,Aa e,Aa f])),(7,(AV.ptr 200003 0)),(47,(AV.agg [d,Aa e,Aa f])),(48,(Aa g)),(8,(Aa g)),(49,(Aa g)),(50,(Ae (g !=(0)))),(52,(Aa (IntKind.wrap .i64 (c+(1)))))],((200003,some ⟨[d,Aa e,Aa f],316⟩)::(200003,some ⟨[AV.Bp,Aa (0),Aa (0)],316⟩)::(100004,some ⟨[AV.sc (.string b),a],32⟩)::m),200075⟩)) else (
Bg (Cv pg (.slice 22 (.tmp 0) none (some (.tmp 1)) none) 22 [i,Aa j] (Ao ((100004,some ⟨[AV.sc (.string b),a],32⟩)::m)) 200003) fun s=>
Bj pg KK.gl ((100004,some ⟨[AV.sc (.string b),a],32⟩)::m) 194 [s,AV.fn 195 [AV.ptr 100004 0]] fun z=>
Iv z fun t=>
bif t then (
A8 R ((100004,some ⟨[AV.sc (.string b),a],32⟩)::m) [some (Aa (7))]) else (
Ia (app (Ao ((100004,some ⟨[AV.sc (.string b),a],32⟩)::m)) 316 3 40 [AV.Bp,Aa (0),Aa (0)] 200072 k a) ((100004,some ⟨[AV.sc (.string b),a],32⟩)::m) fun u aa=>
N0 ⟨[(0,i),(2,(Aa o)),(3,u),(4,(Aa j)),(5,(AV.ptr 100004 0)),(18,p),(19,(Aa q)),(20,(Aa (IntKind.wrap .i64 (l+(1))))),(41,n),(42,(Aa h)),(43,(Aa c)),(44,(Ae (decide (c<h)))),(53,i),(54,(Aa j)),(55,s),(56,(AV.fn 195 [AV.ptr 100004 0])),(57,(Ae t)),(58,k),(59,(AV.ptr 100004 1)),(60,a),(61,u),(62,(Aa (IntKind.wrap .i64 (l+(1)))))],aa,200076⟩))
theorem fT (a:AV) (b:Int) (c:AV) (d:Int) (e:AV) (f g:Int) (h:AV) (i j:Int) (k:ByteArray) (l:AV) (m:Mem) (R:AV→Mem→Prop) (N0 N1:St→Prop):W pg KK 87 0 Ot (J7 a b c d e f g h i j k l m) (pR R N0 N1)=P0 a b c d e f g h i j k l m R N0 N1:=by kernel_rfl
theorem Aa4 (R:AV→Mem→Prop) (N0:St→Prop) {σ:Type} (I:σ→Prop) (a:σ→AV) (b:σ→Int) (c:σ→AV) (d:σ→Int) (e:σ→AV) (f g:σ→Int) (h:σ→AV) (i j:σ→Int) (k:σ→ByteArray) (l:σ→AV) (m:σ→Mem) (μ:σ→Nat) (step:∀x,I x→P0 (a x) (b x) (c x) (d x) (e x) (f x) (g x) (h x) (i x) (j x) (k x) (l x) (m x) R N0 (fun s'=>∃y,I y∧μ y<μ x∧Bb KK 87 0 s' (J7 (a y) (b y) (c y) (d y) (e y) (f y) (g y) (h y) (i y) (j y) (k y) (l y) (m y)))) (x:σ) (hx:I x) {s:St} (hw:Bb KK 87 0 s (J7 (a x) (b x) (c x) (d x) (e x) (f x) (g x) (h x) (i x) (j x) (k x) (l x) (m x))):Bu pg KK 87 0 (.loop Ot) s (Qt R N0):=
 Bu.Eh hw (Bu.loops Dl I (fun x=>J7 (a x) (b x) (c x) (d x) (e x) (f x) (g x) (h x) (i x) (j x) (k x) (l x) (m x)) μ (fun x hx=>(fT (a x) (b x) (c x) (d x) (e x) (f x) (g x) (h x) (i x) (j x) (k x) (l x) (m x) R N0 _).mpr (step x hx)) x hx)
noncomputable def Zv (j:Int) (c g:AV) (d a:Int) (m:Mem) (R:AV→Mem→Prop) (N0:St→Prop):Prop:=
bif (decide (a<d)) then (
Bg (Cw 3 g (Aa a)) fun h=>
Bg (F2 (Ao m) 3 h) fun k=>
qB k fun b l n=>
Af l fun e=>
Af n fun f=>
Hv (B7 b)<|Bg (Cv pg (.slice 30 (.tmp 0) none (some (.tmp 1)) none) 30 [c,Aa a] (Ao ((200004,some ⟨[b,Aa e,Aa f],316⟩)::(200004,some ⟨[AV.Bp,Aa (0),Aa (0)],316⟩)::m)) 200009) fun i=>
Bg (Cn i) fun o=>
Af o fun p=>
Bu pg KK 87 0 (.loop Oq) ⟨[(2,(Aa j)),(3,c),(63,g),(64,(Aa d)),(65,(Aa a)),(66,(Ae (decide (a<d)))),(67,(Aa a)),(68,h),(69,(AV.agg [b,Aa e,Aa f])),(10,(AV.ptr 200004 0)),(9,(Aa a)),(70,c),(71,(Aa a)),(72,i),(73,(Aa p)),(74,(Aa (0)))],((200004,some ⟨[b,Aa e,Aa f],316⟩)::(200004,some ⟨[AV.Bp,Aa (0),Aa (0)],316⟩)::m),200012⟩ (Pq R N0)) else (
A8 R m [some (Aa (0))])
theorem pZ (a:Int) (b c:AV) (d e:Int) (m:Mem) (R:AV→Mem→Prop) (N0:St→Prop):W pg KK 87 0 Sd (Mp a b c d e m) (oA R N0)=Zv a b c d e m R N0:=by kernel_rfl
theorem Aiu (R:AV→Mem→Prop) {σ:Type} (I:σ→Prop) (a:σ→Int) (b c:σ→AV) (d e:σ→Int) (m:σ→Mem) (μ:σ→Nat) (step:∀x,I x→Zv (a x) (b x) (c x) (d x) (e x) (m x) R (fun s'=>∃y,I y∧μ y<μ x∧Bb KK 87 0 s' (Mp (a y) (b y) (c y) (d y) (e y) (m y)))) (x:σ) (hx:I x) {s:St} (hw:Bb KK 87 0 s (Mp (a x) (b x) (c x) (d x) (e x) (m x))):Bu pg KK 87 0 (.loop Sd) s (aB R):=
 Bu.Eh hw (Bu.loops Dl I (fun x=>Mp (a x) (b x) (c x) (d x) (e x) (m x)) μ (fun x hx=>(pZ (a x) (b x) (c x) (d x) (e x) (m x) R _).mpr (step x hx)) x hx)
noncomputable def Pz (l:Int) (n o:AV) (p j:Int) (k:AV) (h a:Int) (b:AV) (c d:Int) (m:Mem) (R:AV→Mem→Prop) (N0 N1:St→Prop):Prop:=
bif (decide (a<h)) then (
Bg (Cw 3 k (Aa a)) fun q=>
Bg (F2 (Ao ((200004,some ⟨[b,Aa c,Aa d],316⟩)::m)) 3 q) fun r=>
qB r fun Tj s c46=>
Af s fun e=>
Af c46 fun f=>
Hv (B7 Tj)<|Bj pg KK.gl ((300003,some ⟨[Tj,Aa e,Aa f],316⟩)::(300003,some ⟨[AV.Bp,Aa (0),Aa (0)],316⟩)::(200004,some ⟨[b,Aa c,Aa d],316⟩)::m) 196 [AV.agg [b,Aa c,Aa d],AV.agg [Tj,Aa e,Aa f]] fun t=>
H5 t fun u v=>
Iv u fun g=>
Af v fun i=>
bif g then (
A8 R ((300003,some ⟨[Tj,Aa e,Aa f],316⟩)::(300003,some ⟨[AV.Bp,Aa (0),Aa (0)],316⟩)::(200004,some ⟨[b,Aa c,Aa d],316⟩)::m) [some (Aa (19))]) else (
N1 ⟨[(2,(Aa l)),(3,n),(10,(AV.ptr 200004 0)),(63,o),(64,(Aa p)),(65,(Aa j)),(72,k),(73,(Aa h)),(74,(Aa (IntKind.wrap .i64 (a+(1))))),(75,(Ae (decide (a<h)))),(76,q),(77,(AV.agg [Tj,Aa e,Aa f])),(12,(AV.ptr 300003 0)),(79,(AV.agg [b,Aa c,Aa d])),(80,(AV.agg [Tj,Aa e,Aa f])),(81,(AV.Bn [Ae g,Aa i])),(78,(AV.Bn [Ae g,Aa i])),(82,(Ae g)),(83,(Aa i)),(13,(Ae g)),(14,(Aa i)),(84,(Ae g)),(85,(Aa (IntKind.wrap .i64 (a+(1)))))],((300003,some ⟨[Tj,Aa e,Aa f],316⟩)::(300003,some ⟨[AV.Bp,Aa (0),Aa (0)],316⟩)::(200004,some ⟨[b,Aa c,Aa d],316⟩)::m),300079⟩)) else (
N0 ⟨[(2,(Aa l)),(3,n),(10,(AV.ptr 200004 0)),(63,o),(64,(Aa p)),(65,(Aa (IntKind.wrap .i64 (j+(1))))),(72,k),(73,(Aa h)),(74,(Aa a)),(75,(Ae (decide (a<h)))),(86,(Aa (IntKind.wrap .i64 (j+(1)))))],((200004,some ⟨[b,Aa c,Aa d],316⟩)::m),300003⟩)
theorem cI (a:Int) (b c:AV) (d e:Int) (f:AV) (g h:Int) (i:AV) (j k:Int) (m:Mem) (R:AV→Mem→Prop) (N0 N1:St→Prop):W pg KK 87 0 Oq (Ki a b c d e f g h i j k m) (rC R N0 N1)=Pz a b c d e f g h i j k m R N0 N1:=by kernel_rfl
theorem xU (R:AV→Mem→Prop) (N0:St→Prop) {σ:Type} (I:σ→Prop) (a:σ→Int) (b c:σ→AV) (d e:σ→Int) (f:σ→AV) (g h:σ→Int) (i:σ→AV) (j k:σ→Int) (m:σ→Mem) (μ:σ→Nat) (step:∀x,I x→Pz (a x) (b x) (c x) (d x) (e x) (f x) (g x) (h x) (i x) (j x) (k x) (m x) R N0 (fun s'=>∃y,I y∧μ y<μ x∧Bb KK 87 0 s' (Ki (a y) (b y) (c y) (d y) (e y) (f y) (g y) (h y) (i y) (j y) (k y) (m y)))) (x:σ) (hx:I x) {s:St} (hw:Bb KK 87 0 s (Ki (a x) (b x) (c x) (d x) (e x) (f x) (g x) (h x) (i x) (j x) (k x) (m x))):Bu pg KK 87 0 (.loop Oq) s (Pq R N0):=
 Bu.Eh hw (Bu.loops Dl I (fun x=>Ki (a x) (b x) (c x) (d x) (e x) (f x) (g x) (h x) (i x) (j x) (k x) (m x)) μ (fun x hx=>(cI (a x) (b x) (c x) (d x) (e x) (f x) (g x) (h x) (i x) (j x) (k x) (m x) R N0 _).mpr (step x hx)) x hx)
noncomputable def Ac2 (a:AV) (R:AV→Mem→Prop):Prop:=
Bg (Cn a) fun c=>
Af c fun b=>
bif (decide (b>(12))) then (
A8 R [] [some (Aa (2))]) else (
Bg (Cn a) fun d=>
Af d fun e=>
Bu pg KK 87 0 (.loop R5) ⟨[(0,a),(2,(Aa (0))),(15,a),(16,(Aa b)),(17,(Ae (decide (b>(12))))),(3,AV.Bp),(18,a),(19,(Aa e)),(20,(Aa (0)))],[],8⟩ (aN R))
theorem zM (a:AV) (R:AV→Mem→Prop) (h:Ac2 a R):Own pg KK.gl 119 [a] R:=Bc Dl Tryz.func119 (code:=xQ) Bf Bf Bf (X:=Ac2 a R) Bf h
noncomputable def Mm:Code:=((Tryz.f41).body).getD .skip
noncomputable def q41 (R:AV→Mem→Prop):A4→St→Prop:=Cr pg Tryz.f41 R
noncomputable def lZ:Code:=C0 Mm 0
noncomputable def nI (R:AV→Mem→Prop):A4→St→Prop:=Cy pg KK 29 0 Mm 0 (q41 R)
noncomputable def Ai0 (R:AV→Mem→Prop) (N0:St→Prop):A4→St→Prop:=Cz N0 (nI R)
def Wy (a:Int) (b:AV) (c d:Int) (m:Mem):St:=⟨[(4,(Aa a)),(17,b),(18,(Aa c)),(19,(Aa d))],m,100000⟩
noncomputable def mS (g:Int) (e:AV) (d b:Int) (m:Mem) (R:AV→Mem→Prop) (N0:St→Prop):Prop:=
bif (decide (b<d)) then (
Bg (Cw 1 e (Aa b)) fun f=>
Bg (Ff (Ao m) f) fun c=>
Bj pg KK.gl m 57 [c] fun h=>
Af h fun a=>
bif (a !=(0)) then (
A8 R m [some (Aa a)]) else (
N0 ⟨[(4,(Aa g)),(17,e),(18,(Aa d)),(19,(Aa (IntKind.wrap .i64 (b+(1))))),(20,(Ae (decide (b<d)))),(21,f),(22,c),(7,c),(23,c),(24,(Aa a)),(8,(Aa a)),(25,(Aa a)),(26,(Ae (a !=(0)))),(28,(Aa (IntKind.wrap .i64 (b+(1)))))],m,100074⟩)) else (
A8 R m [some (Aa (0))])
theorem Aah (a:Int) (b:AV) (c d:Int) (m:Mem) (R:AV→Mem→Prop) (N0:St→Prop):W pg KK 29 0 lZ (Wy a b c d m) (Ai0 R N0)=mS a b c d m R N0:=by kernel_rfl
theorem Alu (R:AV→Mem→Prop) {σ:Type} (I:σ→Prop) (a:σ→Int) (b:σ→AV) (c d:σ→Int) (m:σ→Mem) (μ:σ→Nat) (step:∀x,I x→mS (a x) (b x) (c x) (d x) (m x) R (fun s'=>∃y,I y∧μ y<μ x∧Bb KK 29 0 s' (Wy (a y) (b y) (c y) (d y) (m y)))) (x:σ) (hx:I x) {s:St} (hw:Bb KK 29 0 s (Wy (a x) (b x) (c x) (d x) (m x))):Bu pg KK 29 0 (.loop lZ) s (nI R):=
 Bu.Eh hw (Bu.loops Dl I (fun x=>Wy (a x) (b x) (c x) (d x) (m x)) μ (fun x hx=>(Aah (a x) (b x) (c x) (d x) (m x) R _).mpr (step x hx)) x hx)
noncomputable def F41 (c b:AV) (R:AV→Mem→Prop):Prop:=
Bj pg KK.gl [] 119 [c] fun e=>
Af e fun a=>
bif (a !=(0)) then (
A8 R [] [some (Aa a)]) else (
Bg (Cn b) fun f=>
Af f fun d=>
bif (decide (d>(24))) then (
A8 R [] [some (Aa (2))]) else (
Bg (Cn b) fun g=>
Af g fun h=>
Bu pg KK 29 0 (.loop lZ) ⟨[(0,c),(1,b),(4,(Aa (0))),(9,c),(10,(Aa a)),(5,(Aa a)),(11,(Aa a)),(12,(Ae (a !=(0)))),(14,b),(15,(Aa d)),(16,(Ae (decide (d>(24))))),(17,b),(18,(Aa h)),(19,(Aa (0)))],[],75⟩ (nI R)))
theorem Ag4 (a b:AV) (R:AV→Mem→Prop) (h:F41 a b R):Own pg KK.gl 41 [a,b] R:=Bc Dl Tryz.func41 (code:=Mm) Bf Bf Bf (X:=F41 a b R) Bf h
noncomputable def dV:Code:=((Tryz.f42).body).getD .skip
noncomputable def q42 (R:AV→Mem→Prop):A4→St→Prop:=Cr pg Tryz.f42 R
noncomputable def oH:Code:=C0 dV 0
noncomputable def mP (R:AV→Mem→Prop):A4→St→Prop:=Cy pg KK 53 0 dV 0 (q42 R)
noncomputable def Ali (R:AV→Mem→Prop) (N0:St→Prop):A4→St→Prop:=Cz N0 (mP R)
def X8 (a:AV) (b:Int) (c:AV) (d:Int) (e:AV) (f:Int) (g:AV) (h i:Int) (m:Mem):St:=⟨[(0,a),(2,(Aa b)),(6,c),(7,(Aa d)),(8,e),(9,(Aa f)),(18,g),(19,(Aa h)),(20,(Aa i))],m,100000⟩
noncomputable def nQ (o:AV) (k:Int) (s:AV) (t:Int) (l:AV) (p:Int) (q:AV) (n i:Int) (m:Mem) (R:AV→Mem→Prop) (N0:St→Prop):Prop:=
bif (decide (i<n)) then (
Bg (Cw 1 q (Aa i)) fun r=>
Bg (Ff (Ao m) r) fun j=>
Bj pg KK.gl m 15 [j,Aa k] fun x=>
H5 x fun y z=>
Th y fun Jt Em Hu Ll aa Jl=>
Af Jt fun e=>
Af Em fun b=>
Af Hu fun c=>
Af Ll fun d=>
Af aa fun f=>
Af Jl fun g=>
Af z fun a=>
bif (a !=(0)) then (
N0 ⟨[(0,o),(2,(Aa k)),(6,s),(7,(Aa t)),(8,l),(9,(Aa p)),(18,q),(19,(Aa n)),(20,(Aa (IntKind.wrap .i64 (i+(1))))),(21,(Ae (decide (i<n)))),(22,r),(23,j),(11,j),(25,j),(26,(Aa k)),(27,(AV.Bn [AV.agg [Aa e,Aa b,Aa c,Aa d,Aa f,Aa g],Aa a])),(24,(AV.Bn [AV.agg [Aa e,Aa b,Aa c,Aa d,Aa f,Aa g],Aa a])),(28,(AV.agg [Aa e,Aa b,Aa c,Aa d,Aa f,Aa g])),(29,(Aa a)),(12,(AV.ptr 100073 0)),(13,(Aa a)),(30,(Aa a)),(31,(Ae (a !=(0)))),(50,(Aa (IntKind.wrap .i64 (i+(1)))))],((100073,some ⟨[Aa e,Aa b,Aa c,Aa d,Aa f,Aa g],55⟩)::(100073,some ⟨[Aa (0),Aa (0),Aa (0),Aa (0),Aa (0),Aa (0)],55⟩)::m),100080⟩) else (
Bj pg KK.gl ((100073,some ⟨[Aa e,Aa b,Aa c,Aa d,Aa f,Aa g],55⟩)::(100073,some ⟨[Aa (0),Aa (0),Aa (0),Aa (0),Aa (0),Aa (0)],55⟩)::m) 120 [o,AV.agg [Aa b,Aa c],Aa d] fun ab=>
Af ab fun h=>
bif (decide (h≥(0))) then (
Bg (Cw 1 l (Aa h)) fun v=>
Bg (Ff (Ao ((100073,some ⟨[Aa e,Aa b,Aa c,Aa d,Aa f,Aa g],55⟩)::(100073,some ⟨[Aa (0),Aa (0),Aa (0),Aa (0),Aa (0),Aa (0)],55⟩)::m)) v) fun ad=>
Af ad fun u=>
Bg (Cw 1 l (Aa h)) fun w=>
C4 pg (Ao ((100073,some ⟨[Aa e,Aa b,Aa c,Aa d,Aa f,Aa g],55⟩)::(100073,some ⟨[Aa (0),Aa (0),Aa (0),Aa (0),Aa (0),Aa (0)],55⟩)::m)) 3 w (Aa (IntKind.wrap .i64 (u+(1)))) fun ae d29=>
N0 ⟨[(0,o),(2,(Aa k)),(6,s),(7,(Aa t)),(8,l),(9,(Aa p)),(18,q),(19,(Aa n)),(20,(Aa (IntKind.wrap .i64 (i+(1))))),(21,(Ae (decide (i<n)))),(22,r),(23,j),(11,j),(25,j),(26,(Aa k)),(27,(AV.Bn [AV.agg [Aa e,Aa b,Aa c,Aa d,Aa f,Aa g],Aa a])),(24,(AV.Bn [AV.agg [Aa e,Aa b,Aa c,Aa d,Aa f,Aa g],Aa a])),(28,(AV.agg [Aa e,Aa b,Aa c,Aa d,Aa f,Aa g])),(29,(Aa a)),(12,(AV.ptr 100073 0)),(13,(Aa a)),(30,(Aa a)),(31,(Ae (a !=(0)))),(32,o),(33,(AV.ptr 100073 0)),(34,(AV.ptr 100073 1)),(35,(AV.agg [Aa b,Aa c])),(36,(AV.ptr 100073 0)),(37,(AV.ptr 100073 3)),(38,(Aa d)),(39,(Aa h)),(14,(Aa h)),(40,(Aa h)),(41,(Ae (decide (h≥(0))))),(42,l),(43,(Aa h)),(44,v),(45,(Aa u)),(46,(Aa (IntKind.wrap .i64 (u+(1))))),(47,w),(50,(Aa (IntKind.wrap .i64 (i+(1)))))],Ac ((100073,some ⟨[Aa e,Aa b,Aa c,Aa d,Aa f,Aa g],55⟩)::(100073,some ⟨[Aa (0),Aa (0),Aa (0),Aa (0),Aa (0),Aa (0)],55⟩)::m) d29,100161⟩) else (
N0 ⟨[(0,o),(2,(Aa k)),(6,s),(7,(Aa t)),(8,l),(9,(Aa (IntKind.wrap .i64 (p+(1))))),(18,q),(19,(Aa n)),(20,(Aa (IntKind.wrap .i64 (i+(1))))),(21,(Ae (decide (i<n)))),(22,r),(23,j),(11,j),(25,j),(26,(Aa k)),(27,(AV.Bn [AV.agg [Aa e,Aa b,Aa c,Aa d,Aa f,Aa g],Aa a])),(24,(AV.Bn [AV.agg [Aa e,Aa b,Aa c,Aa d,Aa f,Aa g],Aa a])),(28,(AV.agg [Aa e,Aa b,Aa c,Aa d,Aa f,Aa g])),(29,(Aa a)),(12,(AV.ptr 100073 0)),(13,(Aa a)),(30,(Aa a)),(31,(Ae (a !=(0)))),(32,o),(33,(AV.ptr 100073 0)),(34,(AV.ptr 100073 1)),(35,(AV.agg [Aa b,Aa c])),(36,(AV.ptr 100073 0)),(37,(AV.ptr 100073 3)),(38,(Aa d)),(39,(Aa h)),(14,(Aa h)),(40,(Aa h)),(41,(Ae (decide (h≥(0))))),(48,(Aa p)),(49,(Aa (IntKind.wrap .i64 (p+(1))))),(50,(Aa (IntKind.wrap .i64 (i+(1)))))],((100073,some ⟨[Aa e,Aa b,Aa c,Aa d,Aa f,Aa g],55⟩)::(100073,some ⟨[Aa (0),Aa (0),Aa (0),Aa (0),Aa (0),Aa (0)],55⟩)::m),100157⟩))) else (
A8 R m [some l,some (Aa p)])
theorem Aag (a:AV) (b:Int) (c:AV) (d:Int) (e:AV) (f:Int) (g:AV) (h i:Int) (m:Mem) (R:AV→Mem→Prop) (N0:St→Prop):W pg KK 53 0 oH (X8 a b c d e f g h i m) (Ali R N0)=nQ a b c d e f g h i m R N0:=by kernel_rfl
theorem Am5 (R:AV→Mem→Prop) {σ:Type} (I:σ→Prop) (a:σ→AV) (b:σ→Int) (c:σ→AV) (d:σ→Int) (e:σ→AV) (f:σ→Int) (g:σ→AV) (h i:σ→Int) (m:σ→Mem) (μ:σ→Nat) (step:∀x,I x→nQ (a x) (b x) (c x) (d x) (e x) (f x) (g x) (h x) (i x) (m x) R (fun s'=>∃y,I y∧μ y<μ x∧Bb KK 53 0 s' (X8 (a y) (b y) (c y) (d y) (e y) (f y) (g y) (h y) (i y) (m y)))) (x:σ) (hx:I x) {s:St} (hw:Bb KK 53 0 s (X8 (a x) (b x) (c x) (d x) (e x) (f x) (g x) (h x) (i x) (m x))):Bu pg KK 53 0 (.loop oH) s (mP R):=
 Bu.Eh hw (Bu.loops Dl I (fun x=>X8 (a x) (b x) (c x) (d x) (e x) (f x) (g x) (h x) (i x) (m x)) μ (fun x hx=>(Aag (a x) (b x) (c x) (d x) (e x) (f x) (g x) (h x) (i x) (m x) R _).mpr (step x hx)) x hx)
noncomputable def F42 (a b:AV) (e:Int) (R:AV→Mem→Prop):Prop:=
Bg (Cn a) fun f=>
Af f fun c=>
Ia (mks 4 3 1 8 [Aa (0)] (Aa c) (Aa c)) [] fun d g=>
Bg (Cn b) fun h=>
Af h fun i=>
Bu pg KK 53 0 (.loop oH) ⟨[(0,a),(1,b),(2,(Aa e)),(6,AV.Bp),(7,(Aa (0))),(15,a),(16,(Aa c)),(17,d),(8,d),(9,(Aa (0))),(18,b),(19,(Aa i)),(20,(Aa (0)))],g,10⟩ (mP R)
theorem Agg (a b:AV) (c:Int) (R:AV→Mem→Prop) (h:F42 a b c R):Own pg KK.gl 42 [a,b,Aa c] R:=Bc Dl Tryz.func42 (code:=dV) Bf Bf Bf (X:=F42 a b c R) Bf h
noncomputable def c5:Code:=((Tryz.f5).body).getD .skip
noncomputable def q5 (R:AV→Mem→Prop):A4→St→Prop:=Cr pg Tryz.f5 R
noncomputable def F5 (b c:AV) (a:Int) (R:AV→Mem→Prop):Prop:=
Bj pg KK.gl [] 41 [b,c] fun e=>
Af e fun d=>
bif (d !=(0)) then (
A8 R [] [some AV.Bp,some (Aa (0)),some (Aa d)]) else (
bif (decide (a<(0))) then (
A8 R [] [some AV.Bp,some (Aa (0)),some (Aa (12))]) else (
bif (decide (a>(200000))) then (
A8 R [] [some AV.Bp,some (Aa (0)),some (Aa (12))]) else (
Ep pg KK.gl [] 81 42 [b,c,Aa a] fun f g=>
H5 f fun c3 h=>
Af h fun i=>
A8 R g [some c3,some (Aa i),some (Aa (0))])))
theorem Ajk (a b:AV) (c:Int) (R:AV→Mem→Prop) (h:F5 a b c R):Own pg KK.gl 5 [a,b,Aa c] R:=Bc Dl Tryz.func5 (code:=c5) Bf Bf Bf (X:=F5 a b c R) Bf h
noncomputable def c7:Code:=((Tryz.f7).body).getD .skip
noncomputable def q7 (R:AV→Mem→Prop):A4→St→Prop:=Cr pg Tryz.f7 R
noncomputable def F7 (a b:Int) (R:AV→Mem→Prop):Prop:=
Bg (Cv pg (.convert 3 155 (.tmp 0)) 155 [Aa a] (Ao []) 2) fun c=>
Lz c fun d=>
Bg (Cv pg (.convert 3 155 (.tmp 0)) 155 [Aa b] (Ao []) 4) fun e=>
Lz e fun f=>
Bg (Cv pg (.binOp .rem 155 (.tmp 0) (.tmp 1) 155) 155 [AV.sc (.int .u64 d),AV.sc (.int .u64 f)] (Ao []) 5) fun g=>
Lz g fun h=>
Bg (Cv pg (.convert 155 3 (.tmp 0)) 3 [AV.sc (.int .u64 h)] (Ao []) 6) fun i=>
Af i fun j=>
A8 R [] [some (Aa j)]
theorem Ajp (a b:Int) (R:AV→Mem→Prop) (h:F7 a b R):Own pg KK.gl 7 [Aa a,Aa b] R:=Bc Dl Tryz.func7 (code:=c7) Bf Bf Bf (X:=F7 a b R) Bf h
noncomputable def c53:Code:=((Tryz.f53).body).getD .skip
noncomputable def q53 (R:AV→Mem→Prop):A4→St→Prop:=Cr pg Tryz.f53 R
noncomputable def F53 (a:ByteArray) (b c:AV) (R:AV→Mem→Prop):Prop:=
Hv (B7 b)<|Bg (Ff (Ao ((0,some ⟨[AV.sc (.string a),b],37⟩)::[])) c) fun d=>
Ei d fun s1=>
A8 R ((0,some ⟨[AV.sc (.string a),b],37⟩)::[]) [some (Ae ((a).toList==(s1).toList))]
theorem Adz (a:ByteArray) (b c:AV) (R:AV→Mem→Prop) (h:F53 a b c R):Own pg KK.gl 53 [AV.agg [AV.sc (.string a),b],c] R:=Bc Dl Tryz.func53 (code:=c53) Bf Bf Bf (X:=F53 a b c R) Bf h
noncomputable def c52:Code:=((Tryz.f52).body).getD .skip
noncomputable def q52 (R:AV→Mem→Prop):A4→St→Prop:=Cr pg Tryz.f52 R
noncomputable def F52 (a b:AV) (R:AV→Mem→Prop):Prop:=
Bj pg KK.gl [] 124 [a,b] fun c=>
Af c fun d=>
A8 R [] [some (Ae (decide (d≥(0))))]
theorem Afn (a b:AV) (R:AV→Mem→Prop) (h:F52 a b R):Own pg KK.gl 52 [a,b] R:=Bc Dl Tryz.func52 (code:=c52) Bf Bf Bf (X:=F52 a b R) Bf h
noncomputable def Jt:Code:=((Tryz.f10).body).getD .skip
noncomputable def q10 (R:AV→Mem→Prop):A4→St→Prop:=Cr pg Tryz.f10 R
noncomputable def Bm:Code:=C0 Jt 0
noncomputable def oD (R:AV→Mem→Prop):A4→St→Prop:=Cy pg KK 22 0 Jt 0 (q10 R)
noncomputable def Aj0 (R:AV→Mem→Prop) (N0:St→Prop):A4→St→Prop:=Cz N0 (oD R)
def Xv (a b:AV) (c:ByteArray) (d:AV) (e f:Int) (m:Mem):St:=⟨[(0,a),(1,b),(4,(AV.sc (.string c))),(7,d),(8,(Aa e)),(9,(Aa f))],m,100000⟩
noncomputable def mI (b e:AV) (h:ByteArray) (f:AV) (c a:Int) (m:Mem) (R:AV→Mem→Prop) (N0:St→Prop):Prop:=
bif (decide (a<c)) then (
Bg (Cw 1 f (Aa a)) fun g=>
Bg (Ff (Ao m) g) fun i=>
Ei i fun s4=>
Bj pg KK.gl ((100003,some ⟨[AV.sc (.string s4)],9⟩)::(100003,some ⟨[AV.sc (.string ⟨#[]⟩)],9⟩)::m) 52 [b,AV.fn 53 [AV.ptr 100003 0]] fun j=>
Iv j fun d=>
bif (!d) then (
A8 R ((100003,some ⟨[AV.sc (.string s4)],9⟩)::(100003,some ⟨[AV.sc (.string ⟨#[]⟩)],9⟩)::m) [some (AV.sc (.string s4))]) else (
N0 ⟨[(0,b),(1,e),(4,(AV.sc (.string h))),(7,f),(8,(Aa c)),(9,(Aa (IntKind.wrap .i64 (a+(1))))),(10,(Ae (decide (a<c)))),(11,g),(12,(AV.sc (.string s4))),(6,(AV.ptr 100003 0)),(13,b),(14,(AV.fn 53 [AV.ptr 100003 0])),(15,(Ae d)),(16,(Ae (!d))),(18,(Aa (IntKind.wrap .i64 (a+(1)))))],((100003,some ⟨[AV.sc (.string s4)],9⟩)::(100003,some ⟨[AV.sc (.string ⟨#[]⟩)],9⟩)::m),100074⟩)) else (
Bg (Cw 1 e (Aa (0))) fun k=>
Bg (Ff (Ao m) k) fun l=>
Ei l fun s9=>
A8 R m [some (AV.sc (.string s9))])
theorem Aaw (a b:AV) (c:ByteArray) (d:AV) (e f:Int) (m:Mem) (R:AV→Mem→Prop) (N0:St→Prop):W pg KK 22 0 Bm (Xv a b c d e f m) (Aj0 R N0)=mI a b c d e f m R N0:=by kernel_rfl
theorem Al9 (R:AV→Mem→Prop) {σ:Type} (I:σ→Prop) (a b:σ→AV) (c:σ→ByteArray) (d:σ→AV) (e f:σ→Int) (m:σ→Mem) (μ:σ→Nat) (step:∀x,I x→mI (a x) (b x) (c x) (d x) (e x) (f x) (m x) R (fun s'=>∃y,I y∧μ y<μ x∧Bb KK 22 0 s' (Xv (a y) (b y) (c y) (d y) (e y) (f y) (m y)))) (x:σ) (hx:I x) {s:St} (hw:Bb KK 22 0 s (Xv (a x) (b x) (c x) (d x) (e x) (f x) (m x))):Bu pg KK 22 0 (.loop Bm) s (oD R):=
 Bu.Eh hw (Bu.loops Dl I (fun x=>Xv (a x) (b x) (c x) (d x) (e x) (f x) (m x)) μ (fun x hx=>(Aaw (a x) (b x) (c x) (d x) (e x) (f x) (m x) R _).mpr (step x hx)) x hx)
noncomputable def F10 (b a:AV) (R:AV→Mem→Prop):Prop:=
Bg (Cn a) fun c=>
Af c fun d=>
Bu pg KK 22 0 (.loop Bm) ⟨[(0,b),(1,a),(4,(AV.sc (.string ⟨#[]⟩))),(7,a),(8,(Aa d)),(9,(Aa (0)))],[],4⟩ (oD R)
theorem Afh (a b:AV) (R:AV→Mem→Prop) (h:F10 a b R):Own pg KK.gl 10 [a,b] R:=Bc Dl Tryz.func10 (code:=Jt) Bf Bf Bf (X:=F10 a b R) Bf h
noncomputable def c54:Code:=((Tryz.f54).body).getD .skip
noncomputable def q54 (R:AV→Mem→Prop):A4→St→Prop:=Cr pg Tryz.f54 R
noncomputable def kZ:Code:=C0 c54 0
noncomputable def kV (R:AV→Mem→Prop):A4→St→Prop:=Cy pg KK 20 0 c54 0 (q54 R)
noncomputable def Alj (R:AV→Mem→Prop) (N0:St→Prop):A4→St→Prop:=Cz N0 (kV R)
def Xp (a b:ByteArray) (c:AV) (d e:Int) (m:Mem):St:=⟨[(1,(AV.sc (.string a))),(4,(AV.sc (.string b))),(7,c),(8,(Aa d)),(9,(Aa e))],m,100000⟩
noncomputable def lB (b g:ByteArray) (d:AV) (c a:Int) (m:Mem) (R:AV→Mem→Prop) (N0:St→Prop):Prop:=
bif (decide (a<c)) then (
Bg (Cw 2 d (Aa a)) fun e=>
Bg (F2 (Ao m) 2 e) fun h=>
Da h fun i c5=>
Ei i fun s6=>
Hv (B7 c5)<|Bj pg KK.gl ((100003,some ⟨[AV.sc (.string s6),c5],37⟩)::(100003,some ⟨[AV.sc (.string ⟨#[]⟩),AV.Bp],37⟩)::m) 44 [c5,AV.sc (.string b)] fun j=>
Iv j fun f=>
bif f then (
A8 R ((100003,some ⟨[AV.sc (.string s6),c5],37⟩)::(100003,some ⟨[AV.sc (.string ⟨#[]⟩),AV.Bp],37⟩)::m) [some (AV.sc (.string s6))]) else (
N0 ⟨[(1,(AV.sc (.string b))),(4,(AV.sc (.string g))),(7,d),(8,(Aa c)),(9,(Aa (IntKind.wrap .i64 (a+(1))))),(10,(Ae (decide (a<c)))),(11,e),(12,(AV.agg [AV.sc (.string s6),c5])),(6,(AV.ptr 100003 0)),(13,(AV.ptr 100003 1)),(14,c5),(15,(AV.sc (.string b))),(16,(Ae f)),(19,(Aa (IntKind.wrap .i64 (a+(1)))))],((100003,some ⟨[AV.sc (.string s6),c5],37⟩)::(100003,some ⟨[AV.sc (.string ⟨#[]⟩),AV.Bp],37⟩)::m),100074⟩)) else (
A8 R m [some (AV.sc (.string ⟨#[]⟩))])
theorem Aam (a b:ByteArray) (c:AV) (d e:Int) (m:Mem) (R:AV→Mem→Prop) (N0:St→Prop):W pg KK 20 0 kZ (Xp a b c d e m) (Alj R N0)=lB a b c d e m R N0:=by kernel_rfl
theorem Alw (R:AV→Mem→Prop) {σ:Type} (I:σ→Prop) (a b:σ→ByteArray) (c:σ→AV) (d e:σ→Int) (m:σ→Mem) (μ:σ→Nat) (step:∀x,I x→lB (a x) (b x) (c x) (d x) (e x) (m x) R (fun s'=>∃y,I y∧μ y<μ x∧Bb KK 20 0 s' (Xp (a y) (b y) (c y) (d y) (e y) (m y)))) (x:σ) (hx:I x) {s:St} (hw:Bb KK 20 0 s (Xp (a x) (b x) (c x) (d x) (e x) (m x))):Bu pg KK 20 0 (.loop kZ) s (kV R):=
 Bu.Eh hw (Bu.loops Dl I (fun x=>Xp (a x) (b x) (c x) (d x) (e x) (m x)) μ (fun x hx=>(Aam (a x) (b x) (c x) (d x) (e x) (m x) R _).mpr (step x hx)) x hx)
noncomputable def F54 (a:AV) (b:ByteArray) (R:AV→Mem→Prop):Prop:=
Bg (Cn a) fun c=>
Af c fun d=>
Bu pg KK 20 0 (.loop kZ) ⟨[(0,a),(1,(AV.sc (.string b))),(4,(AV.sc (.string ⟨#[]⟩))),(7,a),(8,(Aa d)),(9,(Aa (0)))],[],4⟩ (kV R)
theorem Aee (a:AV) (b:ByteArray) (R:AV→Mem→Prop) (h:F54 a b R):Own pg KK.gl 54 [a,AV.sc (.string b)] R:=Bc Dl Tryz.func54 (code:=c54) Bf Bf Bf (X:=F54 a b R) Bf h
noncomputable def Hu:Code:=((Tryz.f12).body).getD .skip
noncomputable def q12 (R:AV→Mem→Prop):A4→St→Prop:=Cr pg Tryz.f12 R
noncomputable def F12 (a:AV) (c:ByteArray) (R:AV→Mem→Prop):Prop:=
Bj pg KK.gl [] 46 [a] fun d=>
Af d fun b=>
bif (b !=(0)) then (
A8 R [] [some (AV.sc (.string ⟨#[]⟩)),some (Aa b)]) else (
Bj pg KK.gl [] 54 [a,AV.sc (.string c)] fun e=>
Ei e fun s3=>
bif ((s3).toList==((⟨#[]⟩:ByteArray)).toList) then (
A8 R [] [some (AV.sc (.string ⟨#[]⟩)),some (Aa (8))]) else (
A8 R [] [some (AV.sc (.string s3)),some (Aa (0))]))
theorem Abu (a:AV) (b:ByteArray) (R:AV→Mem→Prop) (h:F12 a b R):Own pg KK.gl 12 [a,AV.sc (.string b)] R:=Bc Dl Tryz.func12 (code:=Hu) Bf Bf Bf (X:=F12 a b R) Bf h
noncomputable def gY:Code:=((Tryz.f16).body).getD .skip
noncomputable def q16 (R:AV→Mem→Prop):A4→St→Prop:=Cr pg Tryz.f16 R
noncomputable def nA:Code:=C0 gY 0
noncomputable def lK (R:AV→Mem→Prop):A4→St→Prop:=Cy pg KK 26 0 gY 0 (q16 R)
noncomputable def Aip (R:AV→Mem→Prop) (N0:St→Prop):A4→St→Prop:=Cz N0 (lK R)
def Xx (a b:AV) (c:Bool) (d e:Int) (m:Mem):St:=⟨[(0,a),(1,b),(4,(Ae c)),(12,(Aa d)),(13,(Aa e))],m,100000⟩
noncomputable def mZ (b c:AV) (g:Bool) (d a:Int) (m:Mem) (R:AV→Mem→Prop) (N0:St→Prop):Prop:=
bif (decide (a<d)) then (
Bg (Cw 1 b (Aa a)) fun e=>
Bg (Ff (Ao m) e) fun h=>
Ei h fun s8=>
Bg (Cw 1 c (Aa a)) fun f=>
Bg (Ff (Ao m) f) fun i=>
Ei i fun s11=>
bif (!((s8).toList==(s11).toList)) then (
A8 R m [some (Ae false)]) else (
N0 ⟨[(0,b),(1,c),(4,(Ae g)),(12,(Aa d)),(13,(Aa (IntKind.wrap .i64 (a+(1))))),(14,(Ae (decide (a<d)))),(15,(Aa a)),(5,(Aa a)),(16,b),(17,(Aa a)),(18,e),(19,(AV.sc (.string s8))),(20,c),(21,(Aa a)),(22,f),(23,(AV.sc (.string s11))),(24,(Ae (!((s8).toList==(s11).toList)))),(25,(Aa (IntKind.wrap .i64 (a+(1)))))],m,100014⟩)) else (
A8 R m [some (Ae true)])
theorem uX (a b:AV) (c:Bool) (d e:Int) (m:Mem) (R:AV→Mem→Prop) (N0:St→Prop):W pg KK 26 0 nA (Xx a b c d e m) (Aip R N0)=mZ a b c d e m R N0:=by kernel_rfl
theorem Al2 (R:AV→Mem→Prop) {σ:Type} (I:σ→Prop) (a b:σ→AV) (c:σ→Bool) (d e:σ→Int) (m:σ→Mem) (μ:σ→Nat) (step:∀x,I x→mZ (a x) (b x) (c x) (d x) (e x) (m x) R (fun s'=>∃y,I y∧μ y<μ x∧Bb KK 26 0 s' (Xx (a y) (b y) (c y) (d y) (e y) (m y)))) (x:σ) (hx:I x) {s:St} (hw:Bb KK 26 0 s (Xx (a x) (b x) (c x) (d x) (e x) (m x))):Bu pg KK 26 0 (.loop nA) s (lK R):=
 Bu.Eh hw (Bu.loops Dl I (fun x=>Xx (a x) (b x) (c x) (d x) (e x) (m x)) μ (fun x hx=>(uX (a x) (b x) (c x) (d x) (e x) (m x) R _).mpr (step x hx)) x hx)
noncomputable def F16 (a b:AV) (R:AV→Mem→Prop):Prop:=
Bg (Cn a) fun e=>
Af e fun c=>
Bg (Cn b) fun f=>
Af f fun d=>
bif (c !=d) then (
A8 R [] [some (Ae false)]) else (
Bg (Cn a) fun g=>
Af g fun h=>
Bu pg KK 26 0 (.loop nA) ⟨[(0,a),(1,b),(4,(Ae false)),(6,a),(7,(Aa c)),(8,b),(9,(Aa d)),(10,(Ae (c !=d))),(11,a),(12,(Aa h)),(13,(Aa (0)))],[],9⟩ (lK R))
theorem Agk (a b:AV) (R:AV→Mem→Prop) (h:F16 a b R):Own pg KK.gl 16 [a,b] R:=Bc Dl Tryz.func16 (code:=gY) Bf Bf Bf (X:=F16 a b R) Bf h
end Go.Proofs.YtmechmjjcgdpdaaGreatDoor
