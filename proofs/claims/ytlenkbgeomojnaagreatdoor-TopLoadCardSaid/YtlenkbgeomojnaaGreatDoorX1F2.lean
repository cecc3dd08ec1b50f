/- Functions of the program as conditions on their answers; printed by wip/Gen.lean.txt. -/
import Derived.Test.YtlenkbgeomojnaaGreatDoorX1T
set_option linter.unusedVariables false
set_option maxRecDepth 100000
set_option maxHeartbeats 4000000
namespace Go.Proofs.YtlenkbgeomojnaaGreatDoor
/- skyway/polygon.Place -/
noncomputable def c246:Code:=((Tryz.f246).body).getD .skip
noncomputable def q246 (R:AV→Mem→Prop):AExit→St→Prop:=retQ pg Tryz.f246 R
noncomputable def c246_0:Code:=loopB c246 0
noncomputable def q246_0 (R:AV→Mem→Prop):AExit→St→Prop:=contW pg KK 65 0 c246 0 (q246 R)
noncomputable def qq246_0 (R:AV→Mem→Prop) (N0:St→Prop):AExit→St→Prop:=thenQ N0 (q246_0 R)
def h246_0 (a:AV) (b c d e f g:Int) (m:Mem):St:=⟨[(0,a),(3,(AV.ptr 0 0)),(4,(intA b)),(5,(intA c)),(11,(intA d)),(12,(intA e))],((0,some ⟨[intA f,intA g],38⟩)::m),100000⟩
noncomputable def B246_0 (e:AV) (t4 n f a c d:Int) (m:Mem) (R:AV→Mem→Prop) (N0:St→Prop):Prop:=
bif (decide (a<f)) then (
opM (idxS 2 e (intA a)) fun o d2=>
opM (ldA (look' (mpushs ((0,some ⟨[intA c,intA d],38⟩)::m) d2) (topId o++([]))) 2 o) fun v3 d3=>
exA2 v3 fun c4 c5=>
ex_i64 c4 fun p=>
ex_i64 c5 fun q=>
callF pg KK.gl (mpushs (mpushs ((0,some ⟨[intA c,intA d],38⟩)::m) d2) d3) 100009 300 [e,intA a] fun v8 d8 ft8=>
exA2 v8 fun c9 ap=>
ex_i64 c9 fun r=>
ex_i64 ap fun s=>
storeW pg (look' ((100011,some ⟨[intA (0),intA (0)],38⟩)::(100010,some ⟨[intA (0),intA (0)],38⟩)::(mpushs (mpushs (mpushs ((0,some ⟨[intA c,intA d],38⟩)::m) d2) d3) d8)) (topId (AV.ptr 100010 0)++(topId (AV.agg [intA p,intA q])++([])))) 38 (AV.ptr 100010 0) (AV.agg [intA p,intA q]) fun cb d13=>
storeW pg (look' (mpushs ((100011,some ⟨[intA (0),intA (0)],38⟩)::(100010,some ⟨[intA (0),intA (0)],38⟩)::(mpushs (mpushs (mpushs ((0,some ⟨[intA c,intA d],38⟩)::m) d2) d3) d8)) d13) (topId (AV.ptr 100011 0)++(topId (AV.agg [intA r,intA s])++([])))) 38 (AV.ptr 100011 0) (AV.agg [intA r,intA s]) fun cc d14=>
chk (confOk [0,0,3,7,0,0,48,0,0,511,1023] [⟨[],[]⟩,⟨[],[]⟩,⟨d2,[]⟩,⟨d3,topId o++([])⟩,⟨[],[]⟩,⟨[],[]⟩,⟨d8,ft8⟩,⟨[(100010,some ⟨[intA (0),intA (0)],38⟩)],[]⟩,⟨[(100011,some ⟨[intA (0),intA (0)],38⟩)],[]⟩,⟨d13,topId (AV.ptr 100010 0)++(topId (AV.agg [intA p,intA q])++([]))⟩,⟨d14,topId (AV.ptr 100011 0)++(topId (AV.agg [intA r,intA s])++([]))⟩]) (opP (ldA (mget (mpushs (mpushs ((100011,some ⟨[intA (0),intA (0)],38⟩)::(100010,some ⟨[intA (0),intA (0)],38⟩)::(mpushs (mpushs (mpushs ((0,some ⟨[intA c,intA d],38⟩)::m) d2) d3) d8)) d13) d14)) 2 (AV.ptr 100010 0)) fun aq=>
exA2 aq fun ar au=>
ex_i64 ar fun t=>
ex_i64 au fun u=>
opP (ldA (mget (mpushs (mpushs ((100011,some ⟨[intA (0),intA (0)],38⟩)::(100010,some ⟨[intA (0),intA (0)],38⟩)::(mpushs (mpushs (mpushs ((0,some ⟨[intA c,intA d],38⟩)::m) d2) d3) d8)) d13) d14)) 2 (AV.ptr 100011 0)) fun av=>
exA2 av fun aw ax=>
ex_i64 aw fun v=>
ex_i64 ax fun w=>
opP (ldA (mget (mpushs (mpushs ((100011,some ⟨[intA (0),intA (0)],38⟩)::(100010,some ⟨[intA (0),intA (0)],38⟩)::(mpushs (mpushs (mpushs ((0,some ⟨[intA c,intA d],38⟩)::m) d2) d3) d8)) d13) d14)) 2 (AV.ptr 0 0)) fun ay=>
exA2 ay fun az ba=>
ex_i64 az fun x=>
ex_i64 ba fun y=>
callQ pg KK.gl (mpushs (mpushs ((100011,some ⟨[intA (0),intA (0)],38⟩)::(100010,some ⟨[intA (0),intA (0)],38⟩)::(mpushs (mpushs (mpushs ((0,some ⟨[intA c,intA d],38⟩)::m) d2) d3) d8)) d13) d14) 306 [AV.agg [intA t,intA u],AV.agg [intA v,intA w],AV.agg [intA x,intA y]] fun bb=>
exB bb fun z=>
bif z then (
retL R (mpushs (mpushs ((100011,some ⟨[intA (0),intA (0)],38⟩)::(100010,some ⟨[intA (0),intA (0)],38⟩)::(mpushs (mpushs (mpushs ((0,some ⟨[intA c,intA d],38⟩)::m) d2) d3) d8)) d13) d14) [some (intA (0))]) else (
opP (ldS (mget (mpushs (mpushs ((100011,some ⟨[intA (0),intA (0)],38⟩)::(100010,some ⟨[intA (0),intA (0)],38⟩)::(mpushs (mpushs (mpushs ((0,some ⟨[intA c,intA d],38⟩)::m) d2) d3) d8)) d13) d14)) (AV.ptr 100010 1)) fun bc=>
ex_i64 bc fun g=>
opP (ldS (mget (mpushs (mpushs ((100011,some ⟨[intA (0),intA (0)],38⟩)::(100010,some ⟨[intA (0),intA (0)],38⟩)::(mpushs (mpushs (mpushs ((0,some ⟨[intA c,intA d],38⟩)::m) d2) d3) d8)) d13) d14)) (AV.ptr 0 1)) fun bd=>
ex_i64 bd fun h=>
opP (ldS (mget (mpushs (mpushs ((100011,some ⟨[intA (0),intA (0)],38⟩)::(100010,some ⟨[intA (0),intA (0)],38⟩)::(mpushs (mpushs (mpushs ((0,some ⟨[intA c,intA d],38⟩)::m) d2) d3) d8)) d13) d14)) (AV.ptr 100011 1)) fun be=>
ex_i64 be fun i=>
opP (ldS (mget (mpushs (mpushs ((100011,some ⟨[intA (0),intA (0)],38⟩)::(100010,some ⟨[intA (0),intA (0)],38⟩)::(mpushs (mpushs (mpushs ((0,some ⟨[intA c,intA d],38⟩)::m) d2) d3) d8)) d13) d14)) (AV.ptr 0 1)) fun bf=>
ex_i64 bf fun j=>
opP (opA pg (.binOp .neq 4 (.tmp 0) (.tmp 1) 4) 4 [boolA (decide (g>h)),boolA (decide (i>j))] (mget (mpushs (mpushs ((100011,some ⟨[intA (0),intA (0)],38⟩)::(100010,some ⟨[intA (0),intA (0)],38⟩)::(mpushs (mpushs (mpushs ((0,some ⟨[intA c,intA d],38⟩)::m) d2) d3) d8)) d13) d14)) 100091) fun bg=>
exB bg fun aa=>
bif aa then (
opP (ldA (mget (mpushs (mpushs ((100011,some ⟨[intA (0),intA (0)],38⟩)::(100010,some ⟨[intA (0),intA (0)],38⟩)::(mpushs (mpushs (mpushs ((0,some ⟨[intA c,intA d],38⟩)::m) d2) d3) d8)) d13) d14)) 2 (AV.ptr 100010 0)) fun bh=>
exA2 bh fun bi bj=>
ex_i64 bi fun ab=>
ex_i64 bj fun ad=>
opP (ldA (mget (mpushs (mpushs ((100011,some ⟨[intA (0),intA (0)],38⟩)::(100010,some ⟨[intA (0),intA (0)],38⟩)::(mpushs (mpushs (mpushs ((0,some ⟨[intA c,intA d],38⟩)::m) d2) d3) d8)) d13) d14)) 2 (AV.ptr 100011 0)) fun bk=>
exA2 bk fun bl c49=>
ex_i64 bl fun ae=>
ex_i64 c49 fun af=>
opP (ldA (mget (mpushs (mpushs ((100011,some ⟨[intA (0),intA (0)],38⟩)::(100010,some ⟨[intA (0),intA (0)],38⟩)::(mpushs (mpushs (mpushs ((0,some ⟨[intA c,intA d],38⟩)::m) d2) d3) d8)) d13) d14)) 2 (AV.ptr 0 0)) fun bm=>
exA2 bm fun bn bo=>
ex_i64 bn fun ag=>
ex_i64 bo fun ah=>
callQ pg KK.gl (mpushs (mpushs ((100011,some ⟨[intA (0),intA (0)],38⟩)::(100010,some ⟨[intA (0),intA (0)],38⟩)::(mpushs (mpushs (mpushs ((0,some ⟨[intA c,intA d],38⟩)::m) d2) d3) d8)) d13) d14) 299 [AV.agg [intA ab,intA ad],AV.agg [intA ae,intA af],AV.agg [intA ag,intA ah]] fun bp=>
ex_i64 bp fun b=>
opP (ldS (mget (mpushs (mpushs ((100011,some ⟨[intA (0),intA (0)],38⟩)::(100010,some ⟨[intA (0),intA (0)],38⟩)::(mpushs (mpushs (mpushs ((0,some ⟨[intA c,intA d],38⟩)::m) d2) d3) d8)) d13) d14)) (AV.ptr 100011 1)) fun bq=>
ex_i64 bq fun k=>
opP (ldS (mget (mpushs (mpushs ((100011,some ⟨[intA (0),intA (0)],38⟩)::(100010,some ⟨[intA (0),intA (0)],38⟩)::(mpushs (mpushs (mpushs ((0,some ⟨[intA c,intA d],38⟩)::m) d2) d3) d8)) d13) d14)) (AV.ptr 100010 1)) fun br=>
ex_i64 br fun l=>
bif (decide (k>l)) then (
bif (decide (b>(0))) then (
opP (opA pg (.unOp .neg 3 (.tmp 0)) 3 [intA n] (mget (mpushs (mpushs ((100011,some ⟨[intA (0),intA (0)],38⟩)::(100010,some ⟨[intA (0),intA (0)],38⟩)::(mpushs (mpushs (mpushs ((0,some ⟨[intA c,intA d],38⟩)::m) d2) d3) d8)) d13) d14)) 100172) fun bs=>
ex_i64 bs fun am=>
N0 ⟨[(0,e),(3,(AV.ptr 0 0)),(4,(intA t4)),(5,(intA am)),(11,(intA f)),(12,(intA (IntKind.wrap .i64 (a+(1))))),(13,(boolA (decide (a<f)))),(14,(intA a)),(6,(intA a)),(15,e),(16,(intA a)),(17,o),(18,(AV.agg [intA p,intA q])),(19,e),(20,(intA a)),(21,(AV.agg [intA r,intA s])),(7,(AV.ptr 100010 0)),(8,(AV.ptr 100011 0)),(22,(AV.agg [intA t,intA u])),(23,(AV.agg [intA v,intA w])),(24,(AV.agg [intA x,intA y])),(25,(boolA z)),(26,(AV.ptr 100010 1)),(27,(intA g)),(28,(AV.ptr 0 1)),(29,(intA h)),(30,(boolA (decide (g>h)))),(31,(AV.ptr 100011 1)),(32,(intA i)),(33,(AV.ptr 0 1)),(34,(intA j)),(35,(boolA (decide (i>j)))),(36,(boolA aa)),(37,(AV.agg [intA ab,intA ad])),(38,(AV.agg [intA ae,intA af])),(39,(AV.agg [intA ag,intA ah])),(40,(intA b)),(9,(intA b)),(41,(AV.ptr 100011 1)),(42,(intA k)),(43,(AV.ptr 100010 1)),(44,(intA l)),(45,(boolA (decide (k>l)))),(46,(boolA true)),(47,(intA b)),(48,(boolA (decide (b>(0))))),(49,(boolA (decide (b>(0))))),(50,(boolA true)),(51,(AV.tup [])),(52,(AV.tup [])),(53,(AV.tup [])),(54,(AV.tup [])),(55,(AV.tup [])),(56,(AV.tup [])),(57,(AV.tup [])),(58,(AV.tup [])),(59,(AV.tup [])),(60,(boolA true)),(61,(intA n)),(62,(intA am)),(63,(intA (IntKind.wrap .i64 (a+(1)))))],mpushs (mpushs ((100011,some ⟨[intA (0),intA (0)],38⟩)::(100010,some ⟨[intA (0),intA (0)],38⟩)::(mpushs (mpushs (mpushs ((0,some ⟨[intA c,intA d],38⟩)::m) d2) d3) d8)) d13) d14,100176⟩) else (
opP (ldS (mget (mpushs (mpushs ((100011,some ⟨[intA (0),intA (0)],38⟩)::(100010,some ⟨[intA (0),intA (0)],38⟩)::(mpushs (mpushs (mpushs ((0,some ⟨[intA c,intA d],38⟩)::m) d2) d3) d8)) d13) d14)) (AV.ptr 100011 1)) fun bt=>
ex_i64 bt fun ai=>
opP (ldS (mget (mpushs (mpushs ((100011,some ⟨[intA (0),intA (0)],38⟩)::(100010,some ⟨[intA (0),intA (0)],38⟩)::(mpushs (mpushs (mpushs ((0,some ⟨[intA c,intA d],38⟩)::m) d2) d3) d8)) d13) d14)) (AV.ptr 100010 1)) fun bu=>
ex_i64 bu fun aj=>
bif (decide (ai<aj)) then (
bif (decide (b<(0))) then (
opP (opA pg (.unOp .neg 3 (.tmp 0)) 3 [intA n] (mget (mpushs (mpushs ((100011,some ⟨[intA (0),intA (0)],38⟩)::(100010,some ⟨[intA (0),intA (0)],38⟩)::(mpushs (mpushs (mpushs ((0,some ⟨[intA c,intA d],38⟩)::m) d2) d3) d8)) d13) d14)) 100181) fun bv=>
ex_i64 bv fun an=>
N0 ⟨[(0,e),(3,(AV.ptr 0 0)),(4,(intA t4)),(5,(intA an)),(11,(intA f)),(12,(intA (IntKind.wrap .i64 (a+(1))))),(13,(boolA (decide (a<f)))),(14,(intA a)),(6,(intA a)),(15,e),(16,(intA a)),(17,o),(18,(AV.agg [intA p,intA q])),(19,e),(20,(intA a)),(21,(AV.agg [intA r,intA s])),(7,(AV.ptr 100010 0)),(8,(AV.ptr 100011 0)),(22,(AV.agg [intA t,intA u])),(23,(AV.agg [intA v,intA w])),(24,(AV.agg [intA x,intA y])),(25,(boolA z)),(26,(AV.ptr 100010 1)),(27,(intA g)),(28,(AV.ptr 0 1)),(29,(intA h)),(30,(boolA (decide (g>h)))),(31,(AV.ptr 100011 1)),(32,(intA i)),(33,(AV.ptr 0 1)),(34,(intA j)),(35,(boolA (decide (i>j)))),(36,(boolA aa)),(37,(AV.agg [intA ab,intA ad])),(38,(AV.agg [intA ae,intA af])),(39,(AV.agg [intA ag,intA ah])),(40,(intA b)),(9,(intA b)),(41,(AV.ptr 100011 1)),(42,(intA k)),(43,(AV.ptr 100010 1)),(44,(intA l)),(45,(boolA (decide (k>l)))),(46,(boolA true)),(47,(intA b)),(48,(boolA (decide (b>(0))))),(49,(boolA (decide (b>(0))))),(50,(boolA false)),(51,(AV.ptr 100011 1)),(52,(intA ai)),(53,(AV.ptr 100010 1)),(54,(intA aj)),(55,(boolA (decide (ai<aj)))),(56,(boolA true)),(57,(intA b)),(58,(boolA (decide (b<(0))))),(59,(boolA (decide (b<(0))))),(60,(boolA (decide (b<(0))))),(61,(intA n)),(62,(intA an)),(63,(intA (IntKind.wrap .i64 (a+(1)))))],mpushs (mpushs ((100011,some ⟨[intA (0),intA (0)],38⟩)::(100010,some ⟨[intA (0),intA (0)],38⟩)::(mpushs (mpushs (mpushs ((0,some ⟨[intA c,intA d],38⟩)::m) d2) d3) d8)) d13) d14,100185⟩) else (
N0 ⟨[(0,e),(3,(AV.ptr 0 0)),(4,(intA t4)),(5,(intA n)),(11,(intA f)),(12,(intA (IntKind.wrap .i64 (a+(1))))),(13,(boolA (decide (a<f)))),(14,(intA a)),(6,(intA a)),(15,e),(16,(intA a)),(17,o),(18,(AV.agg [intA p,intA q])),(19,e),(20,(intA a)),(21,(AV.agg [intA r,intA s])),(7,(AV.ptr 100010 0)),(8,(AV.ptr 100011 0)),(22,(AV.agg [intA t,intA u])),(23,(AV.agg [intA v,intA w])),(24,(AV.agg [intA x,intA y])),(25,(boolA z)),(26,(AV.ptr 100010 1)),(27,(intA g)),(28,(AV.ptr 0 1)),(29,(intA h)),(30,(boolA (decide (g>h)))),(31,(AV.ptr 100011 1)),(32,(intA i)),(33,(AV.ptr 0 1)),(34,(intA j)),(35,(boolA (decide (i>j)))),(36,(boolA aa)),(37,(AV.agg [intA ab,intA ad])),(38,(AV.agg [intA ae,intA af])),(39,(AV.agg [intA ag,intA ah])),(40,(intA b)),(9,(intA b)),(41,(AV.ptr 100011 1)),(42,(intA k)),(43,(AV.ptr 100010 1)),(44,(intA l)),(45,(boolA (decide (k>l)))),(46,(boolA true)),(47,(intA b)),(48,(boolA (decide (b>(0))))),(49,(boolA (decide (b>(0))))),(50,(boolA false)),(51,(AV.ptr 100011 1)),(52,(intA ai)),(53,(AV.ptr 100010 1)),(54,(intA aj)),(55,(boolA (decide (ai<aj)))),(56,(boolA true)),(57,(intA b)),(58,(boolA (decide (b<(0))))),(59,(boolA (decide (b<(0))))),(60,(boolA (decide (b<(0))))),(63,(intA (IntKind.wrap .i64 (a+(1)))))],mpushs (mpushs ((100011,some ⟨[intA (0),intA (0)],38⟩)::(100010,some ⟨[intA (0),intA (0)],38⟩)::(mpushs (mpushs (mpushs ((0,some ⟨[intA c,intA d],38⟩)::m) d2) d3) d8)) d13) d14,100182⟩)) else (
N0 ⟨[(0,e),(3,(AV.ptr 0 0)),(4,(intA t4)),(5,(intA n)),(11,(intA f)),(12,(intA (IntKind.wrap .i64 (a+(1))))),(13,(boolA (decide (a<f)))),(14,(intA a)),(6,(intA a)),(15,e),(16,(intA a)),(17,o),(18,(AV.agg [intA p,intA q])),(19,e),(20,(intA a)),(21,(AV.agg [intA r,intA s])),(7,(AV.ptr 100010 0)),(8,(AV.ptr 100011 0)),(22,(AV.agg [intA t,intA u])),(23,(AV.agg [intA v,intA w])),(24,(AV.agg [intA x,intA y])),(25,(boolA z)),(26,(AV.ptr 100010 1)),(27,(intA g)),(28,(AV.ptr 0 1)),(29,(intA h)),(30,(boolA (decide (g>h)))),(31,(AV.ptr 100011 1)),(32,(intA i)),(33,(AV.ptr 0 1)),(34,(intA j)),(35,(boolA (decide (i>j)))),(36,(boolA aa)),(37,(AV.agg [intA ab,intA ad])),(38,(AV.agg [intA ae,intA af])),(39,(AV.agg [intA ag,intA ah])),(40,(intA b)),(9,(intA b)),(41,(AV.ptr 100011 1)),(42,(intA k)),(43,(AV.ptr 100010 1)),(44,(intA l)),(45,(boolA (decide (k>l)))),(46,(boolA true)),(47,(intA b)),(48,(boolA (decide (b>(0))))),(49,(boolA (decide (b>(0))))),(50,(boolA false)),(51,(AV.ptr 100011 1)),(52,(intA ai)),(53,(AV.ptr 100010 1)),(54,(intA aj)),(55,(boolA (decide (ai<aj)))),(56,(boolA false)),(57,(AV.tup [])),(58,(AV.tup [])),(59,(boolA false)),(60,(boolA false)),(63,(intA (IntKind.wrap .i64 (a+(1)))))],mpushs (mpushs ((100011,some ⟨[intA (0),intA (0)],38⟩)::(100010,some ⟨[intA (0),intA (0)],38⟩)::(mpushs (mpushs (mpushs ((0,some ⟨[intA c,intA d],38⟩)::m) d2) d3) d8)) d13) d14,100180⟩))) else (
opP (ldS (mget (mpushs (mpushs ((100011,some ⟨[intA (0),intA (0)],38⟩)::(100010,some ⟨[intA (0),intA (0)],38⟩)::(mpushs (mpushs (mpushs ((0,some ⟨[intA c,intA d],38⟩)::m) d2) d3) d8)) d13) d14)) (AV.ptr 100011 1)) fun bw=>
ex_i64 bw fun ak=>
opP (ldS (mget (mpushs (mpushs ((100011,some ⟨[intA (0),intA (0)],38⟩)::(100010,some ⟨[intA (0),intA (0)],38⟩)::(mpushs (mpushs (mpushs ((0,some ⟨[intA c,intA d],38⟩)::m) d2) d3) d8)) d13) d14)) (AV.ptr 100010 1)) fun bz=>
ex_i64 bz fun al=>
bif (decide (ak<al)) then (
bif (decide (b<(0))) then (
opP (opA pg (.unOp .neg 3 (.tmp 0)) 3 [intA n] (mget (mpushs (mpushs ((100011,some ⟨[intA (0),intA (0)],38⟩)::(100010,some ⟨[intA (0),intA (0)],38⟩)::(mpushs (mpushs (mpushs ((0,some ⟨[intA c,intA d],38⟩)::m) d2) d3) d8)) d13) d14)) 100179) fun ca=>
ex_i64 ca fun ao=>
N0 ⟨[(0,e),(3,(AV.ptr 0 0)),(4,(intA t4)),(5,(intA ao)),(11,(intA f)),(12,(intA (IntKind.wrap .i64 (a+(1))))),(13,(boolA (decide (a<f)))),(14,(intA a)),(6,(intA a)),(15,e),(16,(intA a)),(17,o),(18,(AV.agg [intA p,intA q])),(19,e),(20,(intA a)),(21,(AV.agg [intA r,intA s])),(7,(AV.ptr 100010 0)),(8,(AV.ptr 100011 0)),(22,(AV.agg [intA t,intA u])),(23,(AV.agg [intA v,intA w])),(24,(AV.agg [intA x,intA y])),(25,(boolA z)),(26,(AV.ptr 100010 1)),(27,(intA g)),(28,(AV.ptr 0 1)),(29,(intA h)),(30,(boolA (decide (g>h)))),(31,(AV.ptr 100011 1)),(32,(intA i)),(33,(AV.ptr 0 1)),(34,(intA j)),(35,(boolA (decide (i>j)))),(36,(boolA aa)),(37,(AV.agg [intA ab,intA ad])),(38,(AV.agg [intA ae,intA af])),(39,(AV.agg [intA ag,intA ah])),(40,(intA b)),(9,(intA b)),(41,(AV.ptr 100011 1)),(42,(intA k)),(43,(AV.ptr 100010 1)),(44,(intA l)),(45,(boolA (decide (k>l)))),(46,(boolA false)),(47,(AV.tup [])),(48,(AV.tup [])),(49,(boolA false)),(50,(boolA false)),(51,(AV.ptr 100011 1)),(52,(intA ak)),(53,(AV.ptr 100010 1)),(54,(intA al)),(55,(boolA (decide (ak<al)))),(56,(boolA true)),(57,(intA b)),(58,(boolA (decide (b<(0))))),(59,(boolA (decide (b<(0))))),(60,(boolA (decide (b<(0))))),(61,(intA n)),(62,(intA ao)),(63,(intA (IntKind.wrap .i64 (a+(1)))))],mpushs (mpushs ((100011,some ⟨[intA (0),intA (0)],38⟩)::(100010,some ⟨[intA (0),intA (0)],38⟩)::(mpushs (mpushs (mpushs ((0,some ⟨[intA c,intA d],38⟩)::m) d2) d3) d8)) d13) d14,100183⟩) else (
N0 ⟨[(0,e),(3,(AV.ptr 0 0)),(4,(intA t4)),(5,(intA n)),(11,(intA f)),(12,(intA (IntKind.wrap .i64 (a+(1))))),(13,(boolA (decide (a<f)))),(14,(intA a)),(6,(intA a)),(15,e),(16,(intA a)),(17,o),(18,(AV.agg [intA p,intA q])),(19,e),(20,(intA a)),(21,(AV.agg [intA r,intA s])),(7,(AV.ptr 100010 0)),(8,(AV.ptr 100011 0)),(22,(AV.agg [intA t,intA u])),(23,(AV.agg [intA v,intA w])),(24,(AV.agg [intA x,intA y])),(25,(boolA z)),(26,(AV.ptr 100010 1)),(27,(intA g)),(28,(AV.ptr 0 1)),(29,(intA h)),(30,(boolA (decide (g>h)))),(31,(AV.ptr 100011 1)),(32,(intA i)),(33,(AV.ptr 0 1)),(34,(intA j)),(35,(boolA (decide (i>j)))),(36,(boolA aa)),(37,(AV.agg [intA ab,intA ad])),(38,(AV.agg [intA ae,intA af])),(39,(AV.agg [intA ag,intA ah])),(40,(intA b)),(9,(intA b)),(41,(AV.ptr 100011 1)),(42,(intA k)),(43,(AV.ptr 100010 1)),(44,(intA l)),(45,(boolA (decide (k>l)))),(46,(boolA false)),(47,(AV.tup [])),(48,(AV.tup [])),(49,(boolA false)),(50,(boolA false)),(51,(AV.ptr 100011 1)),(52,(intA ak)),(53,(AV.ptr 100010 1)),(54,(intA al)),(55,(boolA (decide (ak<al)))),(56,(boolA true)),(57,(intA b)),(58,(boolA (decide (b<(0))))),(59,(boolA (decide (b<(0))))),(60,(boolA (decide (b<(0))))),(63,(intA (IntKind.wrap .i64 (a+(1)))))],mpushs (mpushs ((100011,some ⟨[intA (0),intA (0)],38⟩)::(100010,some ⟨[intA (0),intA (0)],38⟩)::(mpushs (mpushs (mpushs ((0,some ⟨[intA c,intA d],38⟩)::m) d2) d3) d8)) d13) d14,100180⟩)) else (
N0 ⟨[(0,e),(3,(AV.ptr 0 0)),(4,(intA t4)),(5,(intA n)),(11,(intA f)),(12,(intA (IntKind.wrap .i64 (a+(1))))),(13,(boolA (decide (a<f)))),(14,(intA a)),(6,(intA a)),(15,e),(16,(intA a)),(17,o),(18,(AV.agg [intA p,intA q])),(19,e),(20,(intA a)),(21,(AV.agg [intA r,intA s])),(7,(AV.ptr 100010 0)),(8,(AV.ptr 100011 0)),(22,(AV.agg [intA t,intA u])),(23,(AV.agg [intA v,intA w])),(24,(AV.agg [intA x,intA y])),(25,(boolA z)),(26,(AV.ptr 100010 1)),(27,(intA g)),(28,(AV.ptr 0 1)),(29,(intA h)),(30,(boolA (decide (g>h)))),(31,(AV.ptr 100011 1)),(32,(intA i)),(33,(AV.ptr 0 1)),(34,(intA j)),(35,(boolA (decide (i>j)))),(36,(boolA aa)),(37,(AV.agg [intA ab,intA ad])),(38,(AV.agg [intA ae,intA af])),(39,(AV.agg [intA ag,intA ah])),(40,(intA b)),(9,(intA b)),(41,(AV.ptr 100011 1)),(42,(intA k)),(43,(AV.ptr 100010 1)),(44,(intA l)),(45,(boolA (decide (k>l)))),(46,(boolA false)),(47,(AV.tup [])),(48,(AV.tup [])),(49,(boolA false)),(50,(boolA false)),(51,(AV.ptr 100011 1)),(52,(intA ak)),(53,(AV.ptr 100010 1)),(54,(intA al)),(55,(boolA (decide (ak<al)))),(56,(boolA false)),(57,(AV.tup [])),(58,(AV.tup [])),(59,(boolA false)),(60,(boolA false)),(63,(intA (IntKind.wrap .i64 (a+(1)))))],mpushs (mpushs ((100011,some ⟨[intA (0),intA (0)],38⟩)::(100010,some ⟨[intA (0),intA (0)],38⟩)::(mpushs (mpushs (mpushs ((0,some ⟨[intA c,intA d],38⟩)::m) d2) d3) d8)) d13) d14,100178⟩))) else (
N0 ⟨[(0,e),(3,(AV.ptr 0 0)),(4,(intA t4)),(5,(intA n)),(11,(intA f)),(12,(intA (IntKind.wrap .i64 (a+(1))))),(13,(boolA (decide (a<f)))),(14,(intA a)),(6,(intA a)),(15,e),(16,(intA a)),(17,o),(18,(AV.agg [intA p,intA q])),(19,e),(20,(intA a)),(21,(AV.agg [intA r,intA s])),(7,(AV.ptr 100010 0)),(8,(AV.ptr 100011 0)),(22,(AV.agg [intA t,intA u])),(23,(AV.agg [intA v,intA w])),(24,(AV.agg [intA x,intA y])),(25,(boolA z)),(26,(AV.ptr 100010 1)),(27,(intA g)),(28,(AV.ptr 0 1)),(29,(intA h)),(30,(boolA (decide (g>h)))),(31,(AV.ptr 100011 1)),(32,(intA i)),(33,(AV.ptr 0 1)),(34,(intA j)),(35,(boolA (decide (i>j)))),(36,(boolA aa)),(63,(intA (IntKind.wrap .i64 (a+(1)))))],mpushs (mpushs ((100011,some ⟨[intA (0),intA (0)],38⟩)::(100010,some ⟨[intA (0),intA (0)],38⟩)::(mpushs (mpushs (mpushs ((0,some ⟨[intA c,intA d],38⟩)::m) d2) d3) d8)) d13) d14,100094⟩)))) else (
retL R ((0,some ⟨[intA c,intA d],38⟩)::m) [some (intA n)])
theorem B246_0_eq (a:AV) (b c d e f g:Int) (m:Mem) (R:AV→Mem→Prop) (N0:St→Prop):W pg KK 65 0 c246_0 (h246_0 a b c d e f g m) (qq246_0 R N0)=B246_0 a b c d e f g m R N0:=by kernel_rfl
theorem L246_0 (R:AV→Mem→Prop) {σ:Type} (I:σ→Prop) (a:σ→AV) (b c d e f g:σ→Int) (m:σ→Mem) (μ:σ→Nat) (step:∀x,I x→B246_0 (a x) (b x) (c x) (d x) (e x) (f x) (g x) (m x) R (fun s'=>∃y,I y∧μ y<μ x∧Weak KK 65 0 s' (h246_0 (a y) (b y) (c y) (d y) (e y) (f y) (g y) (m y)))) (x:σ) (hx:I x) {s:St} (hw:Weak KK 65 0 s (h246_0 (a x) (b x) (c x) (d x) (e x) (f x) (g x) (m x))):Tri pg KK 65 0 (.loop c246_0) s (q246_0 R):=
 Tri.weak hw (Tri.loops fol I (fun x=>h246_0 (a x) (b x) (c x) (d x) (e x) (f x) (g x) (m x)) μ (fun x hx=>(B246_0_eq (a x) (b x) (c x) (d x) (e x) (f x) (g x) (m x) R _).mpr (step x hx)) x hx)
noncomputable def F246 (a:AV) (b c:Int) (R:AV→Mem→Prop):Prop:=
opP (lenS a) fun d=>
ex_i64 d fun e=>
Tri pg KK 65 0 (.loop c246_0) ⟨[(0,a),(1,(AV.agg [intA b,intA c])),(3,(AV.ptr 0 0)),(4,(intA (0))),(5,(intA (-1))),(10,a),(11,(intA e)),(12,(intA (0)))],((0,some ⟨[intA b,intA c],38⟩)::[]),6⟩ (q246_0 R)
theorem F246_own (a:AV) (b c:Int) (R:AV→Mem→Prop) (h:F246 a b c R):Own pg KK.gl 246 [a,AV.agg [intA b,intA c]] R:=own_of_F fol Tryz.func246 (code:=c246) krE krE krE (X:=F246 a b c R) krE h
/- skyway/volume.Contains -/
noncomputable def c183:Code:=((Tryz.f183).body).getD .skip
noncomputable def q183 (R:AV→Mem→Prop):AExit→St→Prop:=retQ pg Tryz.f183 R
noncomputable def F183 (a:AV) (b c d e f:Int) (R:AV→Mem→Prop):Prop:=
chk (isCell a)<|bif (decide (f≥b)) then (
bif (decide (f<c)) then (
callQ pg KK.gl ((1,some ⟨[intA d,intA e],38⟩)::(0,some ⟨[a,intA b,intA c],297⟩)::[]) 246 [a,AV.agg [intA d,intA e]] fun g=>
ex_i64 g fun h=>
retL R ((1,some ⟨[intA d,intA e],38⟩)::(0,some ⟨[a,intA b,intA c],297⟩)::[]) [some (boolA (decide (h≥(0))))]) else (
retL R ((1,some ⟨[intA d,intA e],38⟩)::(0,some ⟨[a,intA b,intA c],297⟩)::[]) [some (boolA false)])) else (
retL R ((1,some ⟨[intA d,intA e],38⟩)::(0,some ⟨[a,intA b,intA c],297⟩)::[]) [some (boolA false)])
theorem F183_own (a:AV) (b c d e f:Int) (R:AV→Mem→Prop) (h:F183 a b c d e f R):Own pg KK.gl 183 [AV.agg [a,intA b,intA c],AV.agg [intA d,intA e],intA f] R:=own_of_F fol Tryz.func183 (code:=c183) krE krE krE (X:=F183 a b c d e f R) krE h
/- skyway/sector.Place$1$1 -/
noncomputable def c182:Code:=((Tryz.f182).body).getD .skip
noncomputable def q182 (R:AV→Mem→Prop):AExit→St→Prop:=retQ pg Tryz.f182 R
noncomputable def F182 (a:AV) (b c:Int) (d e:AV) (R:AV→Mem→Prop):Prop:=
chk (isCell a)<|opP (ldA (mget ((0,some ⟨[a,intA b,intA c],297⟩)::[])) 2 d) fun f=>
exA2 f fun g h=>
ex_i64 g fun i=>
ex_i64 h fun j=>
opP (ldS (mget ((0,some ⟨[a,intA b,intA c],297⟩)::[])) e) fun k=>
ex_i64 k fun l=>
callQ pg KK.gl ((0,some ⟨[a,intA b,intA c],297⟩)::[]) 183 [AV.agg [a,intA b,intA c],AV.agg [intA i,intA j],intA l] fun m=>
exB m fun n=>
retL R ((0,some ⟨[a,intA b,intA c],297⟩)::[]) [some (boolA n)]
theorem F182_own (a:AV) (b c:Int) (d e:AV) (R:AV→Mem→Prop) (h:F182 a b c d e R):Own pg KK.gl 182 [AV.agg [a,intA b,intA c],d,e] R:=own_of_F fol Tryz.func182 (code:=c182) krE krE krE (X:=F182 a b c d e R) krE h
/- slices.IndexFunc[[]skyway/api.Volume,skyway/api.Volume] -/
noncomputable def c245:Code:=((Tryz.f245).body).getD .skip
noncomputable def q245 (R:AV→Mem→Prop):AExit→St→Prop:=retQ pg Tryz.f245 R
noncomputable def c245_0:Code:=loopB c245 0
noncomputable def q245_0 (R:AV→Mem→Prop):AExit→St→Prop:=contW pg KK 19 0 c245 0 (q245 R)
noncomputable def qq245_0 (R:AV→Mem→Prop) (N0:St→Prop):AExit→St→Prop:=thenQ N0 (q245_0 R)
def h245_0 (a b:AV) (c d e:Int) (m:Mem):St:=⟨[(0,a),(1,b),(4,(intA c)),(7,(intA d)),(8,(intA e))],m,100000⟩
noncomputable def B245_0 (b c:AV) (k d a:Int) (m:Mem) (R:AV→Mem→Prop) (N0:St→Prop):Prop:=
bif (decide (a<d)) then (
opP (idxS 3 b (intA a)) fun f=>
opP (ldA (mget m) 3 f) fun o=>
exA3 o fun g c5 c6=>
ex_i64 c5 fun h=>
ex_i64 c6 fun i=>
fnArgs (some c) (some [AV.agg [g,intA h,intA i]]) fun f9 l=>bif KK.pm f9 then callQ pg KK.gl m f9 l (fun j=>
exB j fun e=>
bif e then (
retL R m [some (intA a)]) else (
N0 ⟨[(0,b),(1,c),(4,(intA k)),(7,(intA d)),(8,(intA (IntKind.wrap .i64 (a+(1))))),(9,(boolA (decide (a<d)))),(10,(intA a)),(5,(intA a)),(11,c),(12,b),(13,(intA a)),(14,f),(15,(AV.agg [g,intA h,intA i])),(16,(boolA e)),(18,(intA (IntKind.wrap .i64 (a+(1)))))],m,100074⟩)) else callW pg KK.gl m 100008 f9 l fun j n=>
exB j fun e=>
bif e then (
retL R n [some (intA a)]) else (
N0 ⟨[(0,b),(1,c),(4,(intA k)),(7,(intA d)),(8,(intA (IntKind.wrap .i64 (a+(1))))),(9,(boolA (decide (a<d)))),(10,(intA a)),(5,(intA a)),(11,c),(12,b),(13,(intA a)),(14,f),(15,(AV.agg [g,intA h,intA i])),(16,(boolA e)),(18,(intA (IntKind.wrap .i64 (a+(1)))))],n,100074⟩)) else (
retL R m [some (intA (-1))])
theorem B245_0_eq (a b:AV) (c d e:Int) (m:Mem) (R:AV→Mem→Prop) (N0:St→Prop):W pg KK 19 0 c245_0 (h245_0 a b c d e m) (qq245_0 R N0)=B245_0 a b c d e m R N0:=by kernel_rfl
theorem L245_0 (R:AV→Mem→Prop) {σ:Type} (I:σ→Prop) (a b:σ→AV) (c d e:σ→Int) (m:σ→Mem) (μ:σ→Nat) (step:∀x,I x→B245_0 (a x) (b x) (c x) (d x) (e x) (m x) R (fun s'=>∃y,I y∧μ y<μ x∧Weak KK 19 0 s' (h245_0 (a y) (b y) (c y) (d y) (e y) (m y)))) (x:σ) (hx:I x) {s:St} (hw:Weak KK 19 0 s (h245_0 (a x) (b x) (c x) (d x) (e x) (m x))):Tri pg KK 19 0 (.loop c245_0) s (q245_0 R):=
 Tri.weak hw (Tri.loops fol I (fun x=>h245_0 (a x) (b x) (c x) (d x) (e x) (m x)) μ (fun x hx=>(B245_0_eq (a x) (b x) (c x) (d x) (e x) (m x) R _).mpr (step x hx)) x hx)
noncomputable def F245 (a b:AV) (R:AV→Mem→Prop):Prop:=
opP (lenS a) fun c=>
ex_i64 c fun d=>
Tri pg KK 19 0 (.loop c245_0) ⟨[(0,a),(1,b),(4,(intA (0))),(6,a),(7,(intA d)),(8,(intA (0)))],[],4⟩ (q245_0 R)
theorem F245_own (a b:AV) (R:AV→Mem→Prop) (h:F245 a b R):Own pg KK.gl 245 [a,b] R:=own_of_F fol Tryz.func245 (code:=c245) krE krE krE (X:=F245 a b R) krE h
/- slices.ContainsFunc[[]skyway/api.Volume,skyway/api.Volume] -/
noncomputable def c181:Code:=((Tryz.f181).body).getD .skip
noncomputable def q181 (R:AV→Mem→Prop):AExit→St→Prop:=retQ pg Tryz.f181 R
noncomputable def F181 (a b:AV) (R:AV→Mem→Prop):Prop:=
callQ pg KK.gl [] 245 [a,b] fun c=>
ex_i64 c fun d=>
retL R [] [some (boolA (decide (d≥(0))))]
theorem F181_own (a b:AV) (R:AV→Mem→Prop) (h:F181 a b R):Own pg KK.gl 181 [a,b] R:=own_of_F fol Tryz.func181 (code:=c181) krE krE krE (X:=F181 a b R) krE h
/- skyway/sector.Place$1 -/
noncomputable def c180:Code:=((Tryz.f180).body).getD .skip
noncomputable def q180 (R:AV→Mem→Prop):AExit→St→Prop:=retQ pg Tryz.f180 R
noncomputable def F180 (b:ByteArray) (a c d:AV) (R:AV→Mem→Prop):Prop:=
chk (isCell a)<|callQ pg KK.gl ((0,some ⟨[AV.sc (.string b),a],293⟩)::[]) 181 [a,AV.fn 182 [c,d]] fun e=>
exB e fun f=>
retL R ((0,some ⟨[AV.sc (.string b),a],293⟩)::[]) [some (boolA f)]
theorem F180_own (a:ByteArray) (b c d:AV) (R:AV→Mem→Prop) (h:F180 a b c d R):Own pg KK.gl 180 [AV.agg [AV.sc (.string a),b],c,d] R:=own_of_F fol Tryz.func180 (code:=c180) krE krE krE (X:=F180 a b c d R) krE h
/- slices.IndexFunc[[]skyway/api.Sector,skyway/api.Sector] -/
noncomputable def c179:Code:=((Tryz.f179).body).getD .skip
noncomputable def q179 (R:AV→Mem→Prop):AExit→St→Prop:=retQ pg Tryz.f179 R
noncomputable def c179_0:Code:=loopB c179 0
noncomputable def q179_0 (R:AV→Mem→Prop):AExit→St→Prop:=contW pg KK 19 0 c179 0 (q179 R)
noncomputable def qq179_0 (R:AV→Mem→Prop) (N0:St→Prop):AExit→St→Prop:=thenQ N0 (q179_0 R)
def h179_0 (a b:AV) (c d e:Int) (m:Mem):St:=⟨[(0,a),(1,b),(4,(intA c)),(7,(intA d)),(8,(intA e))],m,100000⟩
noncomputable def B179_0 (b c:AV) (h d a:Int) (m:Mem) (R:AV→Mem→Prop) (N0:St→Prop):Prop:=
bif (decide (a<d)) then (
opP (idxS 2 b (intA a)) fun f=>
opP (ldA (mget m) 2 f) fun k=>
exA2 k fun l c5=>
exStr l fun s6=>
fnArgs (some c) (some [AV.agg [AV.sc (.string s6),c5]]) fun f7 i=>bif KK.pm f7 then callQ pg KK.gl m f7 i (fun g=>
exB g fun e=>
bif e then (
retL R m [some (intA a)]) else (
N0 ⟨[(0,b),(1,c),(4,(intA h)),(7,(intA d)),(8,(intA (IntKind.wrap .i64 (a+(1))))),(9,(boolA (decide (a<d)))),(10,(intA a)),(5,(intA a)),(11,c),(12,b),(13,(intA a)),(14,f),(15,(AV.agg [AV.sc (.string s6),c5])),(16,(boolA e)),(18,(intA (IntKind.wrap .i64 (a+(1)))))],m,100074⟩)) else callW pg KK.gl m 100008 f7 i fun g j=>
exB g fun e=>
bif e then (
retL R j [some (intA a)]) else (
N0 ⟨[(0,b),(1,c),(4,(intA h)),(7,(intA d)),(8,(intA (IntKind.wrap .i64 (a+(1))))),(9,(boolA (decide (a<d)))),(10,(intA a)),(5,(intA a)),(11,c),(12,b),(13,(intA a)),(14,f),(15,(AV.agg [AV.sc (.string s6),c5])),(16,(boolA e)),(18,(intA (IntKind.wrap .i64 (a+(1)))))],j,100074⟩)) else (
retL R m [some (intA (-1))])
theorem B179_0_eq (a b:AV) (c d e:Int) (m:Mem) (R:AV→Mem→Prop) (N0:St→Prop):W pg KK 19 0 c179_0 (h179_0 a b c d e m) (qq179_0 R N0)=B179_0 a b c d e m R N0:=by kernel_rfl
theorem L179_0 (R:AV→Mem→Prop) {σ:Type} (I:σ→Prop) (a b:σ→AV) (c d e:σ→Int) (m:σ→Mem) (μ:σ→Nat) (step:∀x,I x→B179_0 (a x) (b x) (c x) (d x) (e x) (m x) R (fun s'=>∃y,I y∧μ y<μ x∧Weak KK 19 0 s' (h179_0 (a y) (b y) (c y) (d y) (e y) (m y)))) (x:σ) (hx:I x) {s:St} (hw:Weak KK 19 0 s (h179_0 (a x) (b x) (c x) (d x) (e x) (m x))):Tri pg KK 19 0 (.loop c179_0) s (q179_0 R):=
 Tri.weak hw (Tri.loops fol I (fun x=>h179_0 (a x) (b x) (c x) (d x) (e x) (m x)) μ (fun x hx=>(B179_0_eq (a x) (b x) (c x) (d x) (e x) (m x) R _).mpr (step x hx)) x hx)
noncomputable def F179 (a b:AV) (R:AV→Mem→Prop):Prop:=
opP (lenS a) fun c=>
ex_i64 c fun d=>
Tri pg KK 19 0 (.loop c179_0) ⟨[(0,a),(1,b),(4,(intA (0))),(6,a),(7,(intA d)),(8,(intA (0)))],[],4⟩ (q179_0 R)
theorem F179_own (a b:AV) (R:AV→Mem→Prop) (h:F179 a b R):Own pg KK.gl 179 [a,b] R:=own_of_F fol Tryz.func179 (code:=c179) krE krE krE (X:=F179 a b R) krE h
/- skyway/sector.Place -/
noncomputable def c112:Code:=((Tryz.f112).body).getD .skip
noncomputable def q112 (R:AV→Mem→Prop):AExit→St→Prop:=retQ pg Tryz.f112 R
noncomputable def F112 (d:AV) (a b c:Int) (R:AV→Mem→Prop):Prop:=
callQ pg KK.gl ((1,some ⟨[intA c],3⟩)::(0,some ⟨[intA a,intA b],38⟩)::[]) 179 [d,AV.fn 180 [AV.ptr 0 0,AV.ptr 1 0]] fun e=>
ex_i64 e fun f=>
retL R ((1,some ⟨[intA c],3⟩)::(0,some ⟨[intA a,intA b],38⟩)::[]) [some (intA f)]
theorem F112_own (a:AV) (b c d:Int) (R:AV→Mem→Prop) (h:F112 a b c d R):Own pg KK.gl 112 [a,AV.agg [intA b,intA c],intA d] R:=own_of_F fol Tryz.func112 (code:=c112) krE krE krE (X:=F112 a b c d R) krE h
/- skyway/chart.Name -/
noncomputable def c49:Code:=((Tryz.f49).body).getD .skip
noncomputable def q49 (R:AV→Mem→Prop):AExit→St→Prop:=retQ pg Tryz.f49 R
noncomputable def c49_0:Code:=loopB c49 0
noncomputable def q49_0 (R:AV→Mem→Prop):AExit→St→Prop:=contW pg KK 41 0 c49 0 (q49 R)
noncomputable def qq49_0 (R:AV→Mem→Prop) (N0:St→Prop):AExit→St→Prop:=thenQ N0 (q49_0 R)
def h49_0 (a:Bool) (b:AV) (c d:Int) (m:Mem):St:=⟨[(2,(boolA a)),(14,b),(15,(intA c)),(16,(intA d))],m,100000⟩
noncomputable def B49_0 (f:Bool) (d:AV) (c b:Int) (m:Mem) (R:AV→Mem→Prop) (N0:St→Prop):Prop:=
bif (decide (b<c)) then (
opP (idxS 1 d (intA b)) fun e=>
opP (ldS (mget m) e) fun g=>
ex_u8 g fun a=>
bif (decide (a≥(65))) then (
bif (decide (a≤(90))) then (
N0 ⟨[(2,(boolA f)),(14,d),(15,(intA c)),(16,(intA (IntKind.wrap .i64 (b+(1))))),(17,(boolA (decide (b<c)))),(18,(intA b)),(19,e),(20,(AV.sc (.int .u8 a))),(3,(intA b)),(4,(AV.sc (.int .u8 a))),(21,(AV.sc (.int .u8 a))),(22,(boolA (decide (a≥(65))))),(23,(boolA true)),(24,(AV.sc (.int .u8 a))),(25,(boolA (decide (a≤(90))))),(26,(boolA (decide (a≤(90))))),(27,(boolA true)),(28,(AV.tup [])),(29,(AV.tup [])),(30,(AV.tup [])),(31,(AV.tup [])),(32,(AV.tup [])),(33,(AV.tup [])),(34,(AV.tup [])),(35,(AV.tup [])),(36,(AV.tup [])),(37,(AV.tup [])),(38,(boolA true)),(39,(boolA false)),(40,(intA (IntKind.wrap .i64 (b+(1)))))],m,100017⟩) else (
bif (decide (b>(0))) then (
bif (decide (a≥(48))) then (
bif (!(decide (a≤(57)))) then (
retL R m [some (boolA false)]) else (
N0 ⟨[(2,(boolA f)),(14,d),(15,(intA c)),(16,(intA (IntKind.wrap .i64 (b+(1))))),(17,(boolA (decide (b<c)))),(18,(intA b)),(19,e),(20,(AV.sc (.int .u8 a))),(3,(intA b)),(4,(AV.sc (.int .u8 a))),(21,(AV.sc (.int .u8 a))),(22,(boolA (decide (a≥(65))))),(23,(boolA true)),(24,(AV.sc (.int .u8 a))),(25,(boolA (decide (a≤(90))))),(26,(boolA (decide (a≤(90))))),(27,(boolA false)),(28,(intA b)),(29,(boolA (decide (b>(0))))),(30,(boolA true)),(31,(AV.sc (.int .u8 a))),(32,(boolA (decide (a≥(48))))),(33,(boolA (decide (a≥(48))))),(34,(boolA true)),(35,(AV.sc (.int .u8 a))),(36,(boolA (decide (a≤(57))))),(37,(boolA (decide (a≤(57))))),(38,(boolA (decide (a≤(57))))),(39,(boolA (!(decide (a≤(57)))))),(40,(intA (IntKind.wrap .i64 (b+(1)))))],m,100027⟩)) else (
retL R m [some (boolA false)])) else (
retL R m [some (boolA false)]))) else (
bif (decide (b>(0))) then (
bif (decide (a≥(48))) then (
bif (!(decide (a≤(57)))) then (
retL R m [some (boolA false)]) else (
N0 ⟨[(2,(boolA f)),(14,d),(15,(intA c)),(16,(intA (IntKind.wrap .i64 (b+(1))))),(17,(boolA (decide (b<c)))),(18,(intA b)),(19,e),(20,(AV.sc (.int .u8 a))),(3,(intA b)),(4,(AV.sc (.int .u8 a))),(21,(AV.sc (.int .u8 a))),(22,(boolA (decide (a≥(65))))),(23,(boolA false)),(24,(AV.tup [])),(25,(AV.tup [])),(26,(boolA false)),(27,(boolA false)),(28,(intA b)),(29,(boolA (decide (b>(0))))),(30,(boolA true)),(31,(AV.sc (.int .u8 a))),(32,(boolA (decide (a≥(48))))),(33,(boolA (decide (a≥(48))))),(34,(boolA true)),(35,(AV.sc (.int .u8 a))),(36,(boolA (decide (a≤(57))))),(37,(boolA (decide (a≤(57))))),(38,(boolA (decide (a≤(57))))),(39,(boolA (!(decide (a≤(57)))))),(40,(intA (IntKind.wrap .i64 (b+(1)))))],m,100025⟩)) else (
retL R m [some (boolA false)])) else (
retL R m [some (boolA false)]))) else (
retL R m [some (boolA true)])
theorem B49_0_eq (a:Bool) (b:AV) (c d:Int) (m:Mem) (R:AV→Mem→Prop) (N0:St→Prop):W pg KK 41 0 c49_0 (h49_0 a b c d m) (qq49_0 R N0)=B49_0 a b c d m R N0:=by kernel_rfl
theorem L49_0 (R:AV→Mem→Prop) {σ:Type} (I:σ→Prop) (a:σ→Bool) (b:σ→AV) (c d:σ→Int) (m:σ→Mem) (μ:σ→Nat) (step:∀x,I x→B49_0 (a x) (b x) (c x) (d x) (m x) R (fun s'=>∃y,I y∧μ y<μ x∧Weak KK 41 0 s' (h49_0 (a y) (b y) (c y) (d y) (m y)))) (x:σ) (hx:I x) {s:St} (hw:Weak KK 41 0 s (h49_0 (a x) (b x) (c x) (d x) (m x))):Tri pg KK 41 0 (.loop c49_0) s (q49_0 R):=
 Tri.weak hw (Tri.loops fol I (fun x=>h49_0 (a x) (b x) (c x) (d x) (m x)) μ (fun x hx=>(B49_0_eq (a x) (b x) (c x) (d x) (m x) R _).mpr (step x hx)) x hx)
noncomputable def F49 (a:ByteArray) (R:AV→Mem→Prop):Prop:=
opP (opA pg (.call ⟨.builtin .len,#[.tmp 0],#[9]⟩) 3 [AV.sc (.string a)] (mget []) 2) fun e=>
ex_i64 e fun c=>
bif (decide (c<(1))) then (
retL R [] [some (boolA false)]) else (
opP (opA pg (.call ⟨.builtin .len,#[.tmp 0],#[9]⟩) 3 [AV.sc (.string a)] (mget []) 6) fun f=>
ex_i64 f fun b=>
bif (decide (b>(8))) then (
retL R [] [some (boolA false)]) else (
opP (opA pg (.convert 9 235 (.tmp 0)) 235 [AV.sc (.string a)] (mget []) 10) fun d=>
opP (lenS d) fun g=>
ex_i64 g fun h=>
Tri pg KK 41 0 (.loop c49_0) ⟨[(0,(AV.sc (.string a))),(2,(boolA false)),(5,(AV.sc (.string a))),(6,(intA c)),(7,(boolA (decide (c<(1))))),(8,(boolA false)),(9,(AV.sc (.string a))),(10,(intA b)),(11,(boolA (decide (b>(8))))),(12,(boolA (decide (b>(8))))),(13,(AV.sc (.string a))),(14,d),(15,(intA h)),(16,(intA (0)))],[],13⟩ (q49_0 R)))
theorem F49_own (a:ByteArray) (R:AV→Mem→Prop) (h:F49 a R):Own pg KK.gl 49 [AV.sc (.string a)] R:=own_of_F fol Tryz.func49 (code:=c49) krE krE krE (X:=F49 a R) krE h
/- skyway/sector.Name -/
noncomputable def c172:Code:=((Tryz.f172).body).getD .skip
noncomputable def q172 (R:AV→Mem→Prop):AExit→St→Prop:=retQ pg Tryz.f172 R
noncomputable def F172 (a:ByteArray) (R:AV→Mem→Prop):Prop:=
callQ pg KK.gl [] 49 [AV.sc (.string a)] fun b=>
exB b fun c=>
retL R [] [some (boolA c)]
theorem F172_own (a:ByteArray) (R:AV→Mem→Prop) (h:F172 a R):Own pg KK.gl 172 [AV.sc (.string a)] R:=own_of_F fol Tryz.func172 (code:=c172) krE krE krE (X:=F172 a R) krE h
/- skyway/polygon.crosses -/
noncomputable def c303:Code:=((Tryz.f303).body).getD .skip
noncomputable def q303 (R:AV→Mem→Prop):AExit→St→Prop:=retQ pg Tryz.f303 R
noncomputable def F303 (a b c d e f g h:Int) (R:AV→Mem→Prop):Prop:=
callQ pg KK.gl ((3,some ⟨[intA g,intA h],38⟩)::(2,some ⟨[intA e,intA f],38⟩)::(1,some ⟨[intA c,intA d],38⟩)::(0,some ⟨[intA a,intA b],38⟩)::[]) 299 [AV.agg [intA a,intA b],AV.agg [intA c,intA d],AV.agg [intA e,intA f]] fun i=>
ex_i64 i fun j=>
callQ pg KK.gl ((3,some ⟨[intA g,intA h],38⟩)::(2,some ⟨[intA e,intA f],38⟩)::(1,some ⟨[intA c,intA d],38⟩)::(0,some ⟨[intA a,intA b],38⟩)::[]) 299 [AV.agg [intA a,intA b],AV.agg [intA c,intA d],AV.agg [intA g,intA h]] fun k=>
ex_i64 k fun l=>
bif (decide ((IntKind.wrap .i64 (j*l))<(0))) then (
callQ pg KK.gl ((3,some ⟨[intA g,intA h],38⟩)::(2,some ⟨[intA e,intA f],38⟩)::(1,some ⟨[intA c,intA d],38⟩)::(0,some ⟨[intA a,intA b],38⟩)::[]) 299 [AV.agg [intA e,intA f],AV.agg [intA g,intA h],AV.agg [intA a,intA b]] fun m=>
ex_i64 m fun n=>
callQ pg KK.gl ((3,some ⟨[intA g,intA h],38⟩)::(2,some ⟨[intA e,intA f],38⟩)::(1,some ⟨[intA c,intA d],38⟩)::(0,some ⟨[intA a,intA b],38⟩)::[]) 299 [AV.agg [intA e,intA f],AV.agg [intA g,intA h],AV.agg [intA c,intA d]] fun o=>
ex_i64 o fun p=>
retL R ((3,some ⟨[intA g,intA h],38⟩)::(2,some ⟨[intA e,intA f],38⟩)::(1,some ⟨[intA c,intA d],38⟩)::(0,some ⟨[intA a,intA b],38⟩)::[]) [some (boolA (decide ((IntKind.wrap .i64 (n*p))<(0))))]) else (
retL R ((3,some ⟨[intA g,intA h],38⟩)::(2,some ⟨[intA e,intA f],38⟩)::(1,some ⟨[intA c,intA d],38⟩)::(0,some ⟨[intA a,intA b],38⟩)::[]) [some (boolA false)])
theorem F303_own (a b c d e f g i:Int) (R:AV→Mem→Prop) (h:F303 a b c d e f g i R):Own pg KK.gl 303 [AV.agg [intA a,intA b],AV.agg [intA c,intA d],AV.agg [intA e,intA f],AV.agg [intA g,intA i]] R:=own_of_F fol Tryz.func303 (code:=c303) krE krE krE (X:=F303 a b c d e f g i R) krE h
/- skyway/polygon.Common -/
noncomputable def c301:Code:=((Tryz.f301).body).getD .skip
noncomputable def q301 (R:AV→Mem→Prop):AExit→St→Prop:=retQ pg Tryz.f301 R
noncomputable def F301 (a b c d e f g h:Int) (R:AV→Mem→Prop):Prop:=
callQ pg KK.gl ((3,some ⟨[intA g,intA h],38⟩)::(2,some ⟨[intA e,intA f],38⟩)::(1,some ⟨[intA c,intA d],38⟩)::(0,some ⟨[intA a,intA b],38⟩)::[]) 303 [AV.agg [intA a,intA b],AV.agg [intA c,intA d],AV.agg [intA e,intA f],AV.agg [intA g,intA h]] fun i=>
exB i fun j=>
bif j then (
retL R ((3,some ⟨[intA g,intA h],38⟩)::(2,some ⟨[intA e,intA f],38⟩)::(1,some ⟨[intA c,intA d],38⟩)::(0,some ⟨[intA a,intA b],38⟩)::[]) [some (boolA true)]) else (
callQ pg KK.gl ((3,some ⟨[intA g,intA h],38⟩)::(2,some ⟨[intA e,intA f],38⟩)::(1,some ⟨[intA c,intA d],38⟩)::(0,some ⟨[intA a,intA b],38⟩)::[]) 306 [AV.agg [intA a,intA b],AV.agg [intA c,intA d],AV.agg [intA e,intA f]] fun k=>
exB k fun l=>
bif l then (
retL R ((3,some ⟨[intA g,intA h],38⟩)::(2,some ⟨[intA e,intA f],38⟩)::(1,some ⟨[intA c,intA d],38⟩)::(0,some ⟨[intA a,intA b],38⟩)::[]) [some (boolA true)]) else (
callQ pg KK.gl ((3,some ⟨[intA g,intA h],38⟩)::(2,some ⟨[intA e,intA f],38⟩)::(1,some ⟨[intA c,intA d],38⟩)::(0,some ⟨[intA a,intA b],38⟩)::[]) 306 [AV.agg [intA a,intA b],AV.agg [intA c,intA d],AV.agg [intA g,intA h]] fun m=>
exB m fun n=>
bif n then (
retL R ((3,some ⟨[intA g,intA h],38⟩)::(2,some ⟨[intA e,intA f],38⟩)::(1,some ⟨[intA c,intA d],38⟩)::(0,some ⟨[intA a,intA b],38⟩)::[]) [some (boolA true)]) else (
callQ pg KK.gl ((3,some ⟨[intA g,intA h],38⟩)::(2,some ⟨[intA e,intA f],38⟩)::(1,some ⟨[intA c,intA d],38⟩)::(0,some ⟨[intA a,intA b],38⟩)::[]) 306 [AV.agg [intA e,intA f],AV.agg [intA g,intA h],AV.agg [intA a,intA b]] fun o=>
exB o fun p=>
bif p then (
retL R ((3,some ⟨[intA g,intA h],38⟩)::(2,some ⟨[intA e,intA f],38⟩)::(1,some ⟨[intA c,intA d],38⟩)::(0,some ⟨[intA a,intA b],38⟩)::[]) [some (boolA true)]) else (
callQ pg KK.gl ((3,some ⟨[intA g,intA h],38⟩)::(2,some ⟨[intA e,intA f],38⟩)::(1,some ⟨[intA c,intA d],38⟩)::(0,some ⟨[intA a,intA b],38⟩)::[]) 306 [AV.agg [intA e,intA f],AV.agg [intA g,intA h],AV.agg [intA c,intA d]] fun q=>
exB q fun r=>
retL R ((3,some ⟨[intA g,intA h],38⟩)::(2,some ⟨[intA e,intA f],38⟩)::(1,some ⟨[intA c,intA d],38⟩)::(0,some ⟨[intA a,intA b],38⟩)::[]) [some (boolA r)]))))
theorem F301_own (a b c d e f g i:Int) (R:AV→Mem→Prop) (h:F301 a b c d e f g i R):Own pg KK.gl 301 [AV.agg [intA a,intA b],AV.agg [intA c,intA d],AV.agg [intA e,intA f],AV.agg [intA g,intA i]] R:=own_of_F fol Tryz.func301 (code:=c301) krE krE krE (X:=F301 a b c d e f g i R) krE h
/- skyway/polygon.twice -/
noncomputable def c302:Code:=((Tryz.f302).body).getD .skip
noncomputable def q302 (R:AV→Mem→Prop):AExit→St→Prop:=retQ pg Tryz.f302 R
noncomputable def c302_0:Code:=loopB c302 0
noncomputable def q302_0 (R:AV→Mem→Prop):AExit→St→Prop:=contW pg KK 22 0 c302 0 (q302 R)
noncomputable def qq302_0 (R:AV→Mem→Prop) (N0:St→Prop):AExit→St→Prop:=thenQ N0 (q302_0 R)
def h302_0 (a:AV) (b c d e:Int) (m:Mem):St:=⟨[(0,a),(2,(intA b)),(3,(intA c)),(6,(intA d)),(7,(intA e))],m,100000⟩
noncomputable def B302_0 (b:AV) (k c d a:Int) (m:Mem) (R:AV→Mem→Prop) (N0:St→Prop):Prop:=
bif (decide (a<d)) then (
opP (idxS 2 b (intA a)) fun f=>
opP (ldA (mget m) 2 f) fun l=>
exA2 l fun n c5=>
ex_i64 n fun g=>
ex_i64 c5 fun h=>
callQ pg KK.gl m 300 [b,intA a] fun o=>
exA2 o fun c9 p=>
ex_i64 c9 fun i=>
ex_i64 p fun j=>
callQ pg KK.gl m 336 [AV.agg [intA g,intA h],AV.agg [intA i,intA j]] fun q=>
ex_i64 q fun e=>
N0 ⟨[(0,b),(2,(intA k)),(3,(intA (IntKind.wrap .i64 (c+e)))),(6,(intA d)),(7,(intA (IntKind.wrap .i64 (a+(1))))),(8,(boolA (decide (a<d)))),(9,(intA a)),(4,(intA a)),(10,(intA c)),(11,b),(12,(intA a)),(13,f),(14,(AV.agg [intA g,intA h])),(15,b),(16,(intA a)),(17,(AV.agg [intA i,intA j])),(18,(intA e)),(19,(intA (IntKind.wrap .i64 (c+e)))),(20,(intA (IntKind.wrap .i64 (a+(1)))))],m,100016⟩) else (
retL R m [some (intA c)])
theorem B302_0_eq (a:AV) (b c d e:Int) (m:Mem) (R:AV→Mem→Prop) (N0:St→Prop):W pg KK 22 0 c302_0 (h302_0 a b c d e m) (qq302_0 R N0)=B302_0 a b c d e m R N0:=by kernel_rfl
theorem L302_0 (R:AV→Mem→Prop) {σ:Type} (I:σ→Prop) (a:σ→AV) (b c d e:σ→Int) (m:σ→Mem) (μ:σ→Nat) (step:∀x,I x→B302_0 (a x) (b x) (c x) (d x) (e x) (m x) R (fun s'=>∃y,I y∧μ y<μ x∧Weak KK 22 0 s' (h302_0 (a y) (b y) (c y) (d y) (e y) (m y)))) (x:σ) (hx:I x) {s:St} (hw:Weak KK 22 0 s (h302_0 (a x) (b x) (c x) (d x) (e x) (m x))):Tri pg KK 22 0 (.loop c302_0) s (q302_0 R):=
 Tri.weak hw (Tri.loops fol I (fun x=>h302_0 (a x) (b x) (c x) (d x) (e x) (m x)) μ (fun x hx=>(B302_0_eq (a x) (b x) (c x) (d x) (e x) (m x) R _).mpr (step x hx)) x hx)
noncomputable def F302 (a:AV) (R:AV→Mem→Prop):Prop:=
opP (lenS a) fun b=>
ex_i64 b fun c=>
Tri pg KK 22 0 (.loop c302_0) ⟨[(0,a),(2,(intA (0))),(3,(intA (0))),(5,a),(6,(intA c)),(7,(intA (0)))],[],5⟩ (q302_0 R)
theorem F302_own (a:AV) (R:AV→Mem→Prop) (h:F302 a R):Own pg KK.gl 302 [a] R:=own_of_F fol Tryz.func302 (code:=c302) krE krE krE (X:=F302 a R) krE h
/- skyway/polygon.Check -/
noncomputable def c243:Code:=((Tryz.f243).body).getD .skip
noncomputable def q243 (R:AV→Mem→Prop):AExit→St→Prop:=retQ pg Tryz.f243 R
noncomputable def c243_0:Code:=loopB c243 0
noncomputable def q243_0 (R:AV→Mem→Prop):AExit→St→Prop:=contW pg KK 84 0 c243 0 (q243 R)
noncomputable def qq243_0 (R:AV→Mem→Prop) (N0:St→Prop):AExit→St→Prop:=thenQ N0 (q243_0 R)
def h243_0 (a:AV) (b c:Int) (d:AV) (e f:Int) (m:Mem):St:=⟨[(0,a),(2,(intA b)),(3,(intA c)),(17,d),(18,(intA e)),(19,(intA f))],m,100000⟩
noncomputable def c243_1:Code:=loopB c243 1
noncomputable def q243_1 (R:AV→Mem→Prop):AExit→St→Prop:=contW pg KK 84 0 c243 1 (q243 R)
noncomputable def qq243_1 (R:AV→Mem→Prop) (N0:St→Prop):AExit→St→Prop:=thenQ N0 (q243_1 R)
def h243_1 (a:AV) (b c d e:Int) (m:Mem):St:=⟨[(0,a),(2,(intA b)),(3,(intA c)),(30,(intA d)),(31,(intA e))],m,200000⟩
noncomputable def c243_1_0:Code:=loopB c243_1 0
noncomputable def q243_1_0 (R:AV→Mem→Prop) (N0:St→Prop):AExit→St→Prop:=contW pg KK 84 0 c243_1 0 (qq243_1 R N0)
noncomputable def qq243_1_0 (R:AV→Mem→Prop) (N0 N1:St→Prop):AExit→St→Prop:=thenQ N1 (q243_1_0 R N0)
def h243_1_0 (a:AV) (b c d e f g:Int) (m:Mem):St:=⟨[(0,a),(2,(intA b)),(3,(intA c)),(7,(intA d)),(8,(intA e)),(30,(intA f)),(31,(intA g))],m,300000⟩
noncomputable def B243_0 (f:AV) (h i:Int) (g:AV) (e a:Int) (m:Mem) (R:AV→Mem→Prop) (N0:St→Prop):Prop:=
bif (decide (a<e)) then (
opP (idxS 2 g (intA a)) fun j=>
opP (ldA (mget m) 2 j) fun k=>
exA2 k fun c6 c7=>
ex_i64 c6 fun b=>
ex_i64 c7 fun c=>
callQ pg KK.gl ((100003,some ⟨[intA b,intA c],38⟩)::(100003,some ⟨[intA (0),intA (0)],38⟩)::m) 70 [AV.agg [intA b,intA c]] fun l=>
ex_i64 l fun d=>
bif (d !=(0)) then (
retL R ((100003,some ⟨[intA b,intA c],38⟩)::(100003,some ⟨[intA (0),intA (0)],38⟩)::m) [some (intA d)]) else (
N0 ⟨[(0,f),(2,(intA h)),(3,(intA i)),(17,g),(18,(intA e)),(19,(intA (IntKind.wrap .i64 (a+(1))))),(20,(boolA (decide (a<e)))),(21,j),(22,(AV.agg [intA b,intA c])),(5,(AV.ptr 100003 0)),(23,(AV.agg [intA b,intA c])),(24,(intA d)),(6,(intA d)),(25,(intA d)),(26,(boolA (d !=(0)))),(28,(intA (IntKind.wrap .i64 (a+(1)))))],((100003,some ⟨[intA b,intA c],38⟩)::(100003,some ⟨[intA (0),intA (0)],38⟩)::m),100075⟩)) else (
opP (lenS f) fun n=>
ex_i64 n fun o=>
Tri pg KK 84 0 (.loop c243_1) ⟨[(0,f),(2,(intA h)),(3,(intA i)),(17,g),(18,(intA e)),(19,(intA a)),(20,(boolA (decide (a<e)))),(29,f),(30,(intA o)),(31,(intA (0)))],m,100004⟩ (q243_1 R))
theorem B243_0_eq (a:AV) (b c:Int) (d:AV) (e f:Int) (m:Mem) (R:AV→Mem→Prop) (N0:St→Prop):W pg KK 84 0 c243_0 (h243_0 a b c d e f m) (qq243_0 R N0)=B243_0 a b c d e f m R N0:=by kernel_rfl
theorem L243_0 (R:AV→Mem→Prop) {σ:Type} (I:σ→Prop) (a:σ→AV) (b c:σ→Int) (d:σ→AV) (e f:σ→Int) (m:σ→Mem) (μ:σ→Nat) (step:∀x,I x→B243_0 (a x) (b x) (c x) (d x) (e x) (f x) (m x) R (fun s'=>∃y,I y∧μ y<μ x∧Weak KK 84 0 s' (h243_0 (a y) (b y) (c y) (d y) (e y) (f y) (m y)))) (x:σ) (hx:I x) {s:St} (hw:Weak KK 84 0 s (h243_0 (a x) (b x) (c x) (d x) (e x) (f x) (m x))):Tri pg KK 84 0 (.loop c243_0) s (q243_0 R):=
 Tri.weak hw (Tri.loops fol I (fun x=>h243_0 (a x) (b x) (c x) (d x) (e x) (f x) (m x)) μ (fun x hx=>(B243_0_eq (a x) (b x) (c x) (d x) (e x) (f x) (m x) R _).mpr (step x hx)) x hx)
noncomputable def B243_1 (b:AV) (p c d a:Int) (m:Mem) (R:AV→Mem→Prop) (N0:St→Prop):Prop:=
bif (decide (a<d)) then (
opP (idxS 2 b (intA a)) fun f=>
opP (ldA (mget m) 2 f) fun q=>
exA2 q fun r s=>
ex_i64 r fun g=>
ex_i64 s fun h=>
callQ pg KK.gl m 300 [b,intA a] fun t=>
exA2 t fun u v=>
ex_i64 u fun i=>
ex_i64 v fun j=>
opP (opA pg (.binOp .rem 3 (.tmp 0) (.tmp 1) 3) 3 [intA (IntKind.wrap .i64 (a+(2))),intA c] (mget m) 200014) fun w=>
ex_i64 w fun k=>
opP (idxS 2 b (intA k)) fun l=>
opP (ldA (mget m) 2 l) fun x=>
exA2 x fun y z=>
ex_i64 y fun n=>
ex_i64 z fun o=>
callQ pg KK.gl m 299 [AV.agg [intA g,intA h],AV.agg [intA i,intA j],AV.agg [intA n,intA o]] fun aa=>
ex_i64 aa fun e=>
bif (e==(0)) then (
retL R m [some (intA (3))]) else (
Tri pg KK 84 0 (.loop c243_1_0) ⟨[(0,b),(2,(intA p)),(3,(intA c)),(30,(intA d)),(31,(intA a)),(32,(boolA (decide (a<d)))),(33,(intA a)),(7,(intA a)),(34,b),(35,(intA a)),(36,f),(37,(AV.agg [intA g,intA h])),(38,b),(39,(intA a)),(40,(AV.agg [intA i,intA j])),(41,b),(42,(intA a)),(43,(intA (IntKind.wrap .i64 (a+(2))))),(44,(intA c)),(45,(intA k)),(46,l),(47,(AV.agg [intA n,intA o])),(48,(intA e)),(49,(boolA (e==(0)))),(50,(intA a)),(51,(intA (IntKind.wrap .i64 (a+(2))))),(8,(intA (IntKind.wrap .i64 (a+(2)))))],m,200022⟩ (q243_1_0 R N0))) else (
callQ pg KK.gl m 302 [b] fun ab=>
ex_i64 ab fun ad=>
bif (decide (ad≤(0))) then (
retL R m [some (intA (3))]) else (
retL R m [some (intA (0))]))
theorem B243_1_eq (a:AV) (b c d e:Int) (m:Mem) (R:AV→Mem→Prop) (N0:St→Prop):W pg KK 84 0 c243_1 (h243_1 a b c d e m) (qq243_1 R N0)=B243_1 a b c d e m R N0:=by kernel_rfl
theorem L243_1 (R:AV→Mem→Prop) {σ:Type} (I:σ→Prop) (a:σ→AV) (b c d e:σ→Int) (m:σ→Mem) (μ:σ→Nat) (step:∀x,I x→B243_1 (a x) (b x) (c x) (d x) (e x) (m x) R (fun s'=>∃y,I y∧μ y<μ x∧Weak KK 84 0 s' (h243_1 (a y) (b y) (c y) (d y) (e y) (m y)))) (x:σ) (hx:I x) {s:St} (hw:Weak KK 84 0 s (h243_1 (a x) (b x) (c x) (d x) (e x) (m x))):Tri pg KK 84 0 (.loop c243_1) s (q243_1 R):=
 Tri.weak hw (Tri.loops fol I (fun x=>h243_1 (a x) (b x) (c x) (d x) (e x) (m x)) μ (fun x hx=>(B243_1_eq (a x) (b x) (c x) (d x) (e x) (m x) R _).mpr (step x hx)) x hx)
noncomputable def B243_1_0 (d:AV) (g b c a h f:Int) (m:Mem) (R:AV→Mem→Prop) (N0 N1:St→Prop):Prop:=
bif (decide (a<b)) then (
opP (opA pg (.binOp .rem 3 (.tmp 0) (.tmp 1) 3) 3 [intA (IntKind.wrap .i64 (a+(1))),intA b] (mget m) 300006) fun u=>
ex_i64 u fun e=>
bif (e !=c) then (
opP (idxS 2 d (intA c)) fun j=>
opP (ldA (mget m) 2 j) fun v=>
exA2 v fun w c40=>
ex_i64 w fun k=>
ex_i64 c40 fun l=>
callQ pg KK.gl m 300 [d,intA c] fun x=>
exA2 x fun y z=>
ex_i64 y fun n=>
ex_i64 z fun o=>
opP (idxS 2 d (intA a)) fun p=>
opP (ldA (mget m) 2 p) fun aa=>
exA2 aa fun ab ad=>
ex_i64 ab fun q=>
ex_i64 ad fun r=>
callQ pg KK.gl m 300 [d,intA a] fun ae=>
exA2 ae fun af ag=>
ex_i64 af fun s=>
ex_i64 ag fun t=>
callQ pg KK.gl m 301 [AV.agg [intA k,intA l],AV.agg [intA n,intA o],AV.agg [intA q,intA r],AV.agg [intA s,intA t]] fun ah=>
exB ah fun i=>
bif i then (
retL R m [some (intA (3))]) else (
N1 ⟨[(0,d),(2,(intA g)),(3,(intA b)),(7,(intA c)),(8,(intA (IntKind.wrap .i64 (a+(1))))),(30,(intA h)),(31,(intA f)),(52,(intA a)),(53,(intA b)),(54,(boolA (decide (a<b)))),(57,(intA a)),(58,(intA (IntKind.wrap .i64 (a+(1))))),(59,(intA b)),(60,(intA e)),(61,(intA c)),(62,(boolA (e !=c))),(63,(boolA true)),(64,d),(65,(intA c)),(66,j),(67,(AV.agg [intA k,intA l])),(68,d),(69,(intA c)),(70,(AV.agg [intA n,intA o])),(71,d),(72,(intA a)),(73,p),(74,(AV.agg [intA q,intA r])),(75,d),(76,(intA a)),(77,(AV.agg [intA s,intA t])),(78,(boolA i)),(79,(boolA i)),(55,(intA a)),(56,(intA (IntKind.wrap .i64 (a+(1)))))],m,300029⟩)) else (
N1 ⟨[(0,d),(2,(intA g)),(3,(intA b)),(7,(intA c)),(8,(intA (IntKind.wrap .i64 (a+(1))))),(30,(intA h)),(31,(intA f)),(52,(intA a)),(53,(intA b)),(54,(boolA (decide (a<b)))),(57,(intA a)),(58,(intA (IntKind.wrap .i64 (a+(1))))),(59,(intA b)),(60,(intA e)),(61,(intA c)),(62,(boolA (e !=c))),(63,(boolA false)),(64,(AV.tup [])),(65,(AV.tup [])),(66,(AV.tup [])),(67,(AV.tup [])),(68,(AV.tup [])),(69,(AV.tup [])),(70,(AV.tup [])),(71,(AV.tup [])),(72,(AV.tup [])),(73,(AV.tup [])),(74,(AV.tup [])),(75,(AV.tup [])),(76,(AV.tup [])),(77,(AV.tup [])),(78,(AV.tup [])),(79,(boolA false)),(55,(intA a)),(56,(intA (IntKind.wrap .i64 (a+(1)))))],m,300029⟩)) else (
N0 ⟨[(0,d),(2,(intA g)),(3,(intA b)),(7,(intA c)),(8,(intA a)),(30,(intA h)),(31,(intA (IntKind.wrap .i64 (f+(1))))),(52,(intA a)),(53,(intA b)),(54,(boolA (decide (a<b)))),(80,(intA (IntKind.wrap .i64 (f+(1)))))],m,300005⟩)
theorem B243_1_0_eq (a:AV) (b c d e f g:Int) (m:Mem) (R:AV→Mem→Prop) (N0 N1:St→Prop):W pg KK 84 0 c243_1_0 (h243_1_0 a b c d e f g m) (qq243_1_0 R N0 N1)=B243_1_0 a b c d e f g m R N0 N1:=by kernel_rfl
theorem L243_1_0 (R:AV→Mem→Prop) (N0:St→Prop) {σ:Type} (I:σ→Prop) (a:σ→AV) (b c d e f g:σ→Int) (m:σ→Mem) (μ:σ→Nat) (step:∀x,I x→B243_1_0 (a x) (b x) (c x) (d x) (e x) (f x) (g x) (m x) R N0 (fun s'=>∃y,I y∧μ y<μ x∧Weak KK 84 0 s' (h243_1_0 (a y) (b y) (c y) (d y) (e y) (f y) (g y) (m y)))) (x:σ) (hx:I x) {s:St} (hw:Weak KK 84 0 s (h243_1_0 (a x) (b x) (c x) (d x) (e x) (f x) (g x) (m x))):Tri pg KK 84 0 (.loop c243_1_0) s (q243_1_0 R N0):=
 Tri.weak hw (Tri.loops fol I (fun x=>h243_1_0 (a x) (b x) (c x) (d x) (e x) (f x) (g x) (m x)) μ (fun x hx=>(B243_1_0_eq (a x) (b x) (c x) (d x) (e x) (f x) (g x) (m x) R N0 _).mpr (step x hx)) x hx)
noncomputable def F243 (b:AV) (R:AV→Mem→Prop):Prop:=
opP (lenS b) fun c=>
ex_i64 c fun a=>
bif (decide (a>(16))) then (
retL R [] [some (intA (2))]) else (
bif (decide (a<(3))) then (
retL R [] [some (intA (3))]) else (
opP (lenS b) fun d=>
ex_i64 d fun e=>
Tri pg KK 84 0 (.loop c243_0) ⟨[(0,b),(2,(intA (0))),(9,b),(10,(intA a)),(3,(intA a)),(12,(intA a)),(13,(boolA (decide (a>(16))))),(11,(boolA (decide (a>(16))))),(15,(intA a)),(16,(boolA (decide (a<(3))))),(14,(boolA (decide (a<(3))))),(17,b),(18,(intA e)),(19,(intA (0)))],[],13⟩ (q243_0 R)))
theorem F243_own (a:AV) (R:AV→Mem→Prop) (h:F243 a R):Own pg KK.gl 243 [a] R:=own_of_F fol Tryz.func243 (code:=c243) krE krE krE (X:=F243 a R) krE h
/- skyway/volume.Check -/
noncomputable def c173:Code:=((Tryz.f173).body).getD .skip
noncomputable def q173 (R:AV→Mem→Prop):AExit→St→Prop:=retQ pg Tryz.f173 R
noncomputable def F173 (a:AV) (b c:Int) (R:AV→Mem→Prop):Prop:=
chk (isCell a)<|callQ pg KK.gl ((0,some ⟨[a,intA b,intA c],297⟩)::[]) 243 [a] fun e=>
ex_i64 e fun d=>
bif (d !=(0)) then (
retL R ((0,some ⟨[a,intA b,intA c],297⟩)::[]) [some (intA d)]) else (
bif (decide (b<(0))) then (
retL R ((0,some ⟨[a,intA b,intA c],297⟩)::[]) [some (intA (4))]) else (
bif (decide (c>(60001))) then (
retL R ((0,some ⟨[a,intA b,intA c],297⟩)::[]) [some (intA (4))]) else (
bif (decide (b≥c)) then (
retL R ((0,some ⟨[a,intA b,intA c],297⟩)::[]) [some (intA (4))]) else (
retL R ((0,some ⟨[a,intA b,intA c],297⟩)::[]) [some (intA (0))]))))
theorem F173_own (a:AV) (b c:Int) (R:AV→Mem→Prop) (h:F173 a b c R):Own pg KK.gl 173 [AV.agg [a,intA b,intA c]] R:=own_of_F fol Tryz.func173 (code:=c173) krE krE krE (X:=F173 a b c R) krE h
/- skyway/sector.Check$1 -/
noncomputable def c175:Code:=((Tryz.f175).body).getD .skip
noncomputable def q175 (R:AV→Mem→Prop):AExit→St→Prop:=retQ pg Tryz.f175 R
noncomputable def F175 (a:ByteArray) (b c:AV) (R:AV→Mem→Prop):Prop:=
chk (isCell b)<|opP (fldO 0 c) fun d=>
opP (ldS (mget ((0,some ⟨[AV.sc (.string a),b],293⟩)::[])) d) fun e=>
exStr e fun s2=>
retL R ((0,some ⟨[AV.sc (.string a),b],293⟩)::[]) [some (boolA ((a).toList==(s2).toList))]
theorem F175_own (a:ByteArray) (b c:AV) (R:AV→Mem→Prop) (h:F175 a b c R):Own pg KK.gl 175 [AV.agg [AV.sc (.string a),b],c] R:=own_of_F fol Tryz.func175 (code:=c175) krE krE krE (X:=F175 a b c R) krE h
/- slices.ContainsFunc[[]skyway/api.Sector,skyway/api.Sector] -/
noncomputable def c174:Code:=((Tryz.f174).body).getD .skip
noncomputable def q174 (R:AV→Mem→Prop):AExit→St→Prop:=retQ pg Tryz.f174 R
noncomputable def F174 (a b:AV) (R:AV→Mem→Prop):Prop:=
callQ pg KK.gl [] 179 [a,b] fun c=>
ex_i64 c fun d=>
retL R [] [some (boolA (decide (d≥(0))))]
theorem F174_own (a b:AV) (R:AV→Mem→Prop) (h:F174 a b R):Own pg KK.gl 174 [a,b] R:=own_of_F fol Tryz.func174 (code:=c174) krE krE krE (X:=F174 a b R) krE h
/- skyway/polygon.doubled -/
noncomputable def c304:Code:=((Tryz.f304).body).getD .skip
noncomputable def q304 (R:AV→Mem→Prop):AExit→St→Prop:=retQ pg Tryz.f304 R
noncomputable def c304_0:Code:=loopB c304 0
noncomputable def q304_0 (R:AV→Mem→Prop):AExit→St→Prop:=contW pg KK 24 0 c304 0 (q304 R)
noncomputable def qq304_0 (R:AV→Mem→Prop) (N0:St→Prop):AExit→St→Prop:=thenQ N0 (q304_0 R)
def h304_0 (a b c:AV) (d e:Int) (m:Mem):St:=⟨[(2,a),(3,b),(6,c),(7,(intA d)),(8,(intA e))],m,100000⟩
noncomputable def B304_0 (l d f:AV) (e a:Int) (m:Mem) (R:AV→Mem→Prop) (N0:St→Prop):Prop:=
bif (decide (a<e)) then (
opP (idxS 2 f (intA a)) fun g=>
opP (ldA (mget m) 2 g) fun n=>
exA2 n fun o c5=>
ex_i64 o fun b=>
ex_i64 c5 fun c=>
opP (bld [intA (0),intA (0)] [(0,1),(1,1)] [(0,(intA (IntKind.wrap .i64 ((2)*b)))),(1,(intA (IntKind.wrap .i64 ((2)*c))))]) fun h=>
opN (bsl 100013 38 2 1 [intA (0),intA (0)] [(0,h)]) ((100003,some ⟨[intA b,intA c],38⟩)::(100003,some ⟨[intA (0),intA (0)],38⟩)::m) fun i j=>
opN (app (mget j) 38 2 16 [intA (0),intA (0)] 100014 d i) j fun k p=>
N0 ⟨[(2,l),(3,k),(6,f),(7,(intA e)),(8,(intA (IntKind.wrap .i64 (a+(1))))),(9,(boolA (decide (a<e)))),(10,g),(11,(AV.agg [intA b,intA c])),(5,(AV.ptr 100003 0)),(12,d),(13,(AV.ptr 100003 0)),(14,(intA b)),(15,(intA (IntKind.wrap .i64 ((2)*b)))),(16,(AV.ptr 100003 1)),(17,(intA c)),(18,(intA (IntKind.wrap .i64 ((2)*c)))),(19,h),(20,i),(21,k),(22,(intA (IntKind.wrap .i64 (a+(1)))))],p,100018⟩) else (
retL R m [some d])
theorem B304_0_eq (a b c:AV) (d e:Int) (m:Mem) (R:AV→Mem→Prop) (N0:St→Prop):W pg KK 24 0 c304_0 (h304_0 a b c d e m) (qq304_0 R N0)=B304_0 a b c d e m R N0:=by kernel_rfl
theorem L304_0 (R:AV→Mem→Prop) {σ:Type} (I:σ→Prop) (a b c:σ→AV) (d e:σ→Int) (m:σ→Mem) (μ:σ→Nat) (step:∀x,I x→B304_0 (a x) (b x) (c x) (d x) (e x) (m x) R (fun s'=>∃y,I y∧μ y<μ x∧Weak KK 24 0 s' (h304_0 (a y) (b y) (c y) (d y) (e y) (m y)))) (x:σ) (hx:I x) {s:St} (hw:Weak KK 24 0 s (h304_0 (a x) (b x) (c x) (d x) (e x) (m x))):Tri pg KK 24 0 (.loop c304_0) s (q304_0 R):=
 Tri.weak hw (Tri.loops fol I (fun x=>h304_0 (a x) (b x) (c x) (d x) (e x) (m x)) μ (fun x hx=>(B304_0_eq (a x) (b x) (c x) (d x) (e x) (m x) R _).mpr (step x hx)) x hx)
noncomputable def F304 (a:AV) (R:AV→Mem→Prop):Prop:=
opP (lenS a) fun b=>
ex_i64 b fun c=>
Tri pg KK 24 0 (.loop c304_0) ⟨[(0,a),(2,AV.nils),(3,AV.nils),(6,a),(7,(intA c)),(8,(intA (0)))],[],5⟩ (q304_0 R)
theorem F304_own (a:AV) (R:AV→Mem→Prop) (h:F304 a R):Own pg KK.gl 304 [a] R:=own_of_F fol Tryz.func304 (code:=c304) krE krE krE (X:=F304 a R) krE h
/- skyway/polygon.enters$1 -/
noncomputable def c338:Code:=((Tryz.f338).body).getD .skip
noncomputable def q338 (R:AV→Mem→Prop):AExit→St→Prop:=retQ pg Tryz.f338 R
noncomputable def F338 (a b c d:Int) (e:AV) (R:AV→Mem→Prop):Prop:=
opP (ldA (mget ((1,some ⟨[intA c,intA d],38⟩)::(0,some ⟨[intA a,intA b],38⟩)::[])) 2 e) fun f=>
exA2 f fun g h=>
ex_i64 g fun i=>
ex_i64 h fun j=>
callQ pg KK.gl ((1,some ⟨[intA c,intA d],38⟩)::(0,some ⟨[intA a,intA b],38⟩)::[]) 277 [AV.agg [intA i,intA j],AV.agg [intA a,intA b]] fun k=>
ex_i64 k fun l=>
opP (ldA (mget ((1,some ⟨[intA c,intA d],38⟩)::(0,some ⟨[intA a,intA b],38⟩)::[])) 2 e) fun m=>
exA2 m fun c8 c9=>
ex_i64 c8 fun n=>
ex_i64 c9 fun o=>
callQ pg KK.gl ((1,some ⟨[intA c,intA d],38⟩)::(0,some ⟨[intA a,intA b],38⟩)::[]) 277 [AV.agg [intA n,intA o],AV.agg [intA c,intA d]] fun p=>
ex_i64 p fun q=>
retL R ((1,some ⟨[intA c,intA d],38⟩)::(0,some ⟨[intA a,intA b],38⟩)::[]) [some (intA (IntKind.wrap .i64 (l-q)))]
theorem F338_own (a b c d:Int) (e:AV) (R:AV→Mem→Prop) (h:F338 a b c d e R):Own pg KK.gl 338 [AV.agg [intA a,intA b],AV.agg [intA c,intA d],e] R:=own_of_F fol Tryz.func338 (code:=c338) krE krE krE (X:=F338 a b c d e R) krE h
/- skyway/polygon.enters -/
noncomputable def c305:Code:=((Tryz.f305).body).getD .skip
noncomputable def q305 (R:AV→Mem→Prop):AExit→St→Prop:=retQ pg Tryz.f305 R
noncomputable def c305_0:Code:=loopB c305 0
noncomputable def q305_0 (R:AV→Mem→Prop):AExit→St→Prop:=contW pg KK 127 0 c305 0 (q305 R)
noncomputable def qq305_0 (R:AV→Mem→Prop) (N0:St→Prop):AExit→St→Prop:=thenQ N0 (q305_0 R)
def h305_0 (a b:AV) (c:Bool) (d e:Int) (m:Mem):St:=⟨[(0,a),(1,b),(4,(boolA c)),(17,(intA d)),(18,(intA e))],m,100000⟩
noncomputable def c305_0_0:Code:=loopB c305_0 0
noncomputable def q305_0_0 (R:AV→Mem→Prop) (N0:St→Prop):AExit→St→Prop:=contW pg KK 127 0 c305_0 0 (qq305_0 R N0)
noncomputable def qq305_0_0 (R:AV→Mem→Prop) (N0 N1:St→Prop):AExit→St→Prop:=thenQ N1 (q305_0_0 R N0)
def h305_0_0 (a b:AV) (c:Bool) (d:AV) (e f:Int) (g:AV) (h i:Int) (m:Mem):St:=⟨[(0,a),(1,b),(4,(boolA c)),(6,(AV.ptr 100010 0)),(7,(AV.ptr 100011 0)),(8,d),(17,(intA e)),(18,(intA f)),(31,g),(32,(intA h)),(33,(intA i))],m,200000⟩
noncomputable def c305_0_1:Code:=loopB c305_0 1
noncomputable def q305_0_1 (R:AV→Mem→Prop) (N0:St→Prop):AExit→St→Prop:=contW pg KK 127 0 c305_0 1 (qq305_0 R N0)
noncomputable def qq305_0_1 (R:AV→Mem→Prop) (N0 N1:St→Prop):AExit→St→Prop:=thenQ N1 (q305_0_1 R N0)
def h305_0_1 (a b:AV) (c:Bool) (d:AV) (e f g:Int) (m:Mem):St:=⟨[(0,a),(1,b),(4,(boolA c)),(6,(AV.ptr 100010 0)),(7,(AV.ptr 100011 0)),(8,d),(11,(intA e)),(17,(intA f)),(18,(intA g))],m,300000⟩
noncomputable def c305_0_1_0:Code:=loopB c305_0_1 0
noncomputable def q305_0_1_0 (R:AV→Mem→Prop) (N0 N1:St→Prop):AExit→St→Prop:=contW pg KK 127 0 c305_0_1 0 (qq305_0_1 R N0 N1)
noncomputable def qq305_0_1_0 (R:AV→Mem→Prop) (N0 N1 N2:St→Prop):AExit→St→Prop:=thenQ N2 (q305_0_1_0 R N0 N1)
def h305_0_1_0 (a b:AV) (c:Bool) (d:AV) (e f g h i:Int) (m:Mem):St:=⟨[(0,a),(1,b),(4,(boolA c)),(6,(AV.ptr 100010 0)),(7,(AV.ptr 100011 0)),(8,d),(11,(intA e)),(12,(AV.ptr 300041 0)),(17,(intA f)),(18,(intA g)),(100,(intA h)),(101,(intA i))],m,400000⟩
noncomputable def B305_0 (b h:AV) (p:Bool) (i a:Int) (m:Mem) (R:AV→Mem→Prop) (N0:St→Prop):Prop:=
bif (decide (a<i)) then (
opM (idxS 2 b (intA a)) fun c d2=>
opM (ldA (look' (mpushs m d2) (topId c++([]))) 2 c) fun q d3=>
exA2 q fun r c5=>
ex_i64 r fun d=>
ex_i64 c5 fun e=>
callF pg KK.gl (mpushs (mpushs m d2) d3) 100009 300 [b,intA a] fun s d8 ft8=>
exA2 s fun c9 t=>
ex_i64 c9 fun f=>
ex_i64 t fun g=>
storeW pg (look' ((100011,some ⟨[intA (0),intA (0)],38⟩)::(100010,some ⟨[intA (0),intA (0)],38⟩)::(mpushs (mpushs (mpushs m d2) d3) d8)) (topId (AV.ptr 100010 0)++(topId (AV.agg [intA d,intA e])++([])))) 38 (AV.ptr 100010 0) (AV.agg [intA d,intA e]) fun ae d13=>
storeW pg (look' (mpushs ((100011,some ⟨[intA (0),intA (0)],38⟩)::(100010,some ⟨[intA (0),intA (0)],38⟩)::(mpushs (mpushs (mpushs m d2) d3) d8)) d13) (topId (AV.ptr 100011 0)++(topId (AV.agg [intA f,intA g])++([])))) 38 (AV.ptr 100011 0) (AV.agg [intA f,intA g]) fun af d14=>
chk (confOk [0,0,3,7,0,0,48,0,0,511,1023] [⟨[],[]⟩,⟨[],[]⟩,⟨d2,[]⟩,⟨d3,topId c++([])⟩,⟨[],[]⟩,⟨[],[]⟩,⟨d8,ft8⟩,⟨[(100010,some ⟨[intA (0),intA (0)],38⟩)],[]⟩,⟨[(100011,some ⟨[intA (0),intA (0)],38⟩)],[]⟩,⟨d13,topId (AV.ptr 100010 0)++(topId (AV.agg [intA d,intA e])++([]))⟩,⟨d14,topId (AV.ptr 100011 0)++(topId (AV.agg [intA f,intA g])++([]))⟩]) (opP (ldA (mget (mpushs (mpushs ((100011,some ⟨[intA (0),intA (0)],38⟩)::(100010,some ⟨[intA (0),intA (0)],38⟩)::(mpushs (mpushs (mpushs m d2) d3) d8)) d13) d14)) 2 (AV.ptr 100010 0)) fun u=>
exA2 u fun v w=>
ex_i64 v fun j=>
ex_i64 w fun k=>
opP (ldA (mget (mpushs (mpushs ((100011,some ⟨[intA (0),intA (0)],38⟩)::(100010,some ⟨[intA (0),intA (0)],38⟩)::(mpushs (mpushs (mpushs m d2) d3) d8)) d13) d14)) 2 (AV.ptr 100011 0)) fun x=>
exA2 x fun y z=>
ex_i64 y fun l=>
ex_i64 z fun n=>
opN (bsl 100016 38 2 2 [intA (0),intA (0)] [(0,(AV.agg [intA j,intA k])),(1,(AV.agg [intA l,intA n]))]) (mpushs (mpushs ((100011,some ⟨[intA (0),intA (0)],38⟩)::(100010,some ⟨[intA (0),intA (0)],38⟩)::(mpushs (mpushs (mpushs m d2) d3) d8)) d13) d14) fun o aa=>
opP (lenS h) fun ab=>
ex_i64 ab fun ad=>
Tri pg KK 127 0 (.loop c305_0_0) ⟨[(0,b),(1,h),(4,(boolA p)),(17,(intA i)),(18,(intA a)),(19,(boolA (decide (a<i)))),(20,(intA a)),(5,(intA a)),(21,b),(22,(intA a)),(23,c),(24,(AV.agg [intA d,intA e])),(25,b),(26,(intA a)),(27,(AV.agg [intA f,intA g])),(6,(AV.ptr 100010 0)),(7,(AV.ptr 100011 0)),(28,(AV.agg [intA j,intA k])),(29,(AV.agg [intA l,intA n])),(30,o),(8,o),(31,h),(32,(intA ad)),(33,(intA (0)))],aa,100021⟩ (q305_0_0 R N0))) else (
retL R m [some (boolA false)])
theorem B305_0_eq (a b:AV) (c:Bool) (d e:Int) (m:Mem) (R:AV→Mem→Prop) (N0:St→Prop):W pg KK 127 0 c305_0 (h305_0 a b c d e m) (qq305_0 R N0)=B305_0 a b c d e m R N0:=by kernel_rfl
theorem L305_0 (R:AV→Mem→Prop) {σ:Type} (I:σ→Prop) (a b:σ→AV) (c:σ→Bool) (d e:σ→Int) (m:σ→Mem) (μ:σ→Nat) (step:∀x,I x→B305_0 (a x) (b x) (c x) (d x) (e x) (m x) R (fun s'=>∃y,I y∧μ y<μ x∧Weak KK 127 0 s' (h305_0 (a y) (b y) (c y) (d y) (e y) (m y)))) (x:σ) (hx:I x) {s:St} (hw:Weak KK 127 0 s (h305_0 (a x) (b x) (c x) (d x) (e x) (m x))):Tri pg KK 127 0 (.loop c305_0) s (q305_0 R):=
 Tri.weak hw (Tri.loops fol I (fun x=>h305_0 (a x) (b x) (c x) (d x) (e x) (m x)) μ (fun x hx=>(B305_0_eq (a x) (b x) (c x) (d x) (e x) (m x) R _).mpr (step x hx)) x hx)
noncomputable def B305_0_0 (g h:AV) (i:Bool) (e:AV) (j k:Int) (f:AV) (d c:Int) (m:Mem) (R:AV→Mem→Prop) (N0 N1:St→Prop):Prop:=
bif (decide (c<d)) then (
opP (idxS 2 f (intA c)) fun l=>
opP (ldA (mget m) 2 l) fun v=>
exA2 v fun w x=>
ex_i64 w fun a=>
ex_i64 x fun b=>
opP (ldA (mget ((200003,some ⟨[intA a,intA b],38⟩)::(200003,some ⟨[intA (0),intA (0)],38⟩)::m)) 2 (AV.ptr 100010 0)) fun y=>
exA2 y fun c35 c36=>
ex_i64 c35 fun n=>
ex_i64 c36 fun o=>
opP (ldA (mget ((200003,some ⟨[intA a,intA b],38⟩)::(200003,some ⟨[intA (0),intA (0)],38⟩)::m)) 2 (AV.ptr 100011 0)) fun z=>
exA2 z fun c40 c41=>
ex_i64 c40 fun p=>
ex_i64 c41 fun q=>
callQ pg KK.gl ((200003,some ⟨[intA a,intA b],38⟩)::(200003,some ⟨[intA (0),intA (0)],38⟩)::m) 306 [AV.agg [intA n,intA o],AV.agg [intA p,intA q],AV.agg [intA a,intA b]] fun aa=>
exB aa fun r=>
bif r then (
opN (bsl 200074 38 2 1 [intA (0),intA (0)] [(0,(AV.agg [intA a,intA b]))]) ((200003,some ⟨[intA a,intA b],38⟩)::(200003,some ⟨[intA (0),intA (0)],38⟩)::m) fun s t=>
opN (app (mget t) 38 2 16 [intA (0),intA (0)] 200075 e s) t fun u ab=>
N1 ⟨[(0,g),(1,h),(4,(boolA i)),(6,(AV.ptr 100010 0)),(7,(AV.ptr 100011 0)),(8,u),(17,(intA j)),(18,(intA k)),(31,f),(32,(intA d)),(33,(intA (IntKind.wrap .i64 (c+(1))))),(34,(boolA (decide (c<d)))),(35,l),(36,(AV.agg [intA a,intA b])),(10,(AV.ptr 200003 0)),(37,(AV.agg [intA n,intA o])),(38,(AV.agg [intA p,intA q])),(39,(AV.agg [intA a,intA b])),(40,(boolA r)),(41,e),(42,(AV.agg [intA a,intA b])),(43,s),(44,u),(45,(intA (IntKind.wrap .i64 (c+(1)))))],ab,200079⟩) else (
N1 ⟨[(0,g),(1,h),(4,(boolA i)),(6,(AV.ptr 100010 0)),(7,(AV.ptr 100011 0)),(8,e),(17,(intA j)),(18,(intA k)),(31,f),(32,(intA d)),(33,(intA (IntKind.wrap .i64 (c+(1))))),(34,(boolA (decide (c<d)))),(35,l),(36,(AV.agg [intA a,intA b])),(10,(AV.ptr 200003 0)),(37,(AV.agg [intA n,intA o])),(38,(AV.agg [intA p,intA q])),(39,(AV.agg [intA a,intA b])),(40,(boolA r)),(45,(intA (IntKind.wrap .i64 (c+(1)))))],((200003,some ⟨[intA a,intA b],38⟩)::(200003,some ⟨[intA (0),intA (0)],38⟩)::m),200074⟩)) else (
callW pg KK.gl m 200003 337 [e,AV.fn 338 [AV.ptr 100010 0]] fun ad ae=>
exT0 ad<|
Tri pg KK 127 0 (.loop c305_0_1) ⟨[(0,g),(1,h),(4,(boolA i)),(6,(AV.ptr 100010 0)),(7,(AV.ptr 100011 0)),(8,e),(17,(intA j)),(18,(intA k)),(31,f),(32,(intA d)),(33,(intA c)),(34,(boolA (decide (c<d)))),(46,e),(47,(AV.fn 338 [AV.ptr 100010 0])),(48,(AV.tup [])),(11,(intA (1)))],ae,200068⟩ (q305_0_1 R N0))
theorem B305_0_0_eq (a b:AV) (c:Bool) (d:AV) (e f:Int) (g:AV) (h i:Int) (m:Mem) (R:AV→Mem→Prop) (N0 N1:St→Prop):W pg KK 127 0 c305_0_0 (h305_0_0 a b c d e f g h i m) (qq305_0_0 R N0 N1)=B305_0_0 a b c d e f g h i m R N0 N1:=by kernel_rfl
theorem L305_0_0 (R:AV→Mem→Prop) (N0:St→Prop) {σ:Type} (I:σ→Prop) (a b:σ→AV) (c:σ→Bool) (d:σ→AV) (e f:σ→Int) (g:σ→AV) (h i:σ→Int) (m:σ→Mem) (μ:σ→Nat) (step:∀x,I x→B305_0_0 (a x) (b x) (c x) (d x) (e x) (f x) (g x) (h x) (i x) (m x) R N0 (fun s'=>∃y,I y∧μ y<μ x∧Weak KK 127 0 s' (h305_0_0 (a y) (b y) (c y) (d y) (e y) (f y) (g y) (h y) (i y) (m y)))) (x:σ) (hx:I x) {s:St} (hw:Weak KK 127 0 s (h305_0_0 (a x) (b x) (c x) (d x) (e x) (f x) (g x) (h x) (i x) (m x))):Tri pg KK 127 0 (.loop c305_0_0) s (q305_0_0 R N0):=
 Tri.weak hw (Tri.loops fol I (fun x=>h305_0_0 (a x) (b x) (c x) (d x) (e x) (f x) (g x) (h x) (i x) (m x)) μ (fun x hx=>(B305_0_0_eq (a x) (b x) (c x) (d x) (e x) (f x) (g x) (h x) (i x) (m x) R N0 _).mpr (step x hx)) x hx)
noncomputable def B305_0_1 (q d:AV) (r:Bool) (b:AV) (a s j:Int) (m:Mem) (R:AV→Mem→Prop) (N0 N1:St→Prop):Prop:=
opP (lenS b) fun ah=>
ex_i64 ah fun e=>
bif (decide (a<e)) then (
opP (idxS 2 b (intA a)) fun t=>
opP (ldA (mget m) 2 t) fun ai=>
exA2 ai fun aj ak=>
ex_i64 aj fun u=>
ex_i64 ak fun v=>
opP (idxS 2 b (intA (IntKind.wrap .i64 (a-(1))))) fun w=>
opP (ldA (mget m) 2 w) fun al=>
exA2 al fun am an=>
ex_i64 am fun x=>
ex_i64 an fun y=>
opP (opA pg (.binOp .eql 38 (.tmp 0) (.tmp 1) 38) 4 [AV.agg [intA u,intA v],AV.agg [intA x,intA y]] (mget m) 300013) fun ao=>
exB ao fun z=>
bif z then (
N1 ⟨[(0,q),(1,d),(4,(boolA r)),(6,(AV.ptr 100010 0)),(7,(AV.ptr 100011 0)),(8,b),(11,(intA (IntKind.wrap .i64 (a+(1))))),(17,(intA s)),(18,(intA j)),(49,(intA a)),(50,b),(51,(intA e)),(52,(boolA (decide (a<e)))),(55,b),(56,(intA a)),(57,t),(58,(AV.agg [intA u,intA v])),(59,b),(60,(intA a)),(61,(intA (IntKind.wrap .i64 (a-(1))))),(62,w),(63,(AV.agg [intA x,intA y])),(64,(boolA z)),(53,(intA a)),(54,(intA (IntKind.wrap .i64 (a+(1)))))],m,300017⟩) else (
opM (idxS 2 b (intA a)) fun aa d65=>
opM (fldO 0 aa) fun k d66=>
opM (ldS (look' (mpushs (mpushs m d65) d66) (topId k++([]))) k) fun ap d67=>
ex_i64 ap fun f=>
opM (idxS 2 b (intA (IntKind.wrap .i64 (a-(1))))) fun ab d69=>
opM (fldO 0 ab) fun l d70=>
opM (ldS (look' (mpushs (mpushs (mpushs (mpushs (mpushs m d65) d66) d67) d69) d70) (topId l++([]))) l) fun aq d71=>
ex_i64 aq fun g=>
opM (idxS 2 b (intA a)) fun ad d73=>
opM (fldO 1 ad) fun n d74=>
opM (ldS (look' (mpushs (mpushs (mpushs (mpushs (mpushs (mpushs (mpushs (mpushs m d65) d66) d67) d69) d70) d71) d73) d74) (topId n++([]))) n) fun ar d75=>
ex_i64 ar fun h=>
opM (idxS 2 b (intA (IntKind.wrap .i64 (a-(1))))) fun ae d77=>
opM (fldO 1 ae) fun o d78=>
opM (ldS (look' (mpushs (mpushs (mpushs (mpushs (mpushs (mpushs (mpushs (mpushs (mpushs (mpushs (mpushs m d65) d66) d67) d69) d70) d71) d73) d74) d75) d77) d78) (topId o++([]))) o) fun au d79=>
ex_i64 au fun i=>
opM (bld [intA (0),intA (0)] [(0,1),(1,1)] [(0,(intA (IntKind.wrap .i64 (Int.tdiv (IntKind.wrap .i64 (f+g)) (2))))),(1,(intA (IntKind.wrap .i64 (Int.tdiv (IntKind.wrap .i64 (h+i)) (2)))))]) fun p d81=>
storeW pg (look' ((300041,some ⟨[intA (0),intA (0)],38⟩)::(mpushs (mpushs (mpushs (mpushs (mpushs (mpushs (mpushs (mpushs (mpushs (mpushs (mpushs (mpushs (mpushs m d65) d66) d67) d69) d70) d71) d73) d74) d75) d77) d78) d79) d81)) (topId (AV.ptr 300041 0)++(topId p++([])))) 38 (AV.ptr 300041 0) p fun bb d82=>
chk (confOk [0,0,3,7,15,0,0,64,224,480,992,2047,4095,0,0,24576,57344,122880,0,0,524288,1835008,3932160,8126464,16769024,33546240,67108863,0,268435455] [⟨[],[]⟩,⟨[],[]⟩,⟨d65,[]⟩,⟨d66,[]⟩,⟨d67,topId k++([])⟩,⟨[],[]⟩,⟨[],[]⟩,⟨[],[]⟩,⟨d69,[]⟩,⟨d70,[]⟩,⟨d71,topId l++([])⟩,⟨[],[]⟩,⟨[],[]⟩,⟨[],[]⟩,⟨[],[]⟩,⟨d73,[]⟩,⟨d74,[]⟩,⟨d75,topId n++([])⟩,⟨[],[]⟩,⟨[],[]⟩,⟨[],[]⟩,⟨d77,[]⟩,⟨d78,[]⟩,⟨d79,topId o++([])⟩,⟨[],[]⟩,⟨[],[]⟩,⟨d81,[]⟩,⟨[(300041,some ⟨[intA (0),intA (0)],38⟩)],[]⟩,⟨d82,topId (AV.ptr 300041 0)++(topId p++([]))⟩]) (opP (ldA (mget (mpushs ((300041,some ⟨[intA (0),intA (0)],38⟩)::(mpushs (mpushs (mpushs (mpushs (mpushs (mpushs (mpushs (mpushs (mpushs (mpushs (mpushs (mpushs (mpushs m d65) d66) d67) d69) d70) d71) d73) d74) d75) d77) d78) d79) d81)) d82)) 2 (AV.ptr 300041 0)) fun av=>
exA2 av fun aw ax=>
ex_i64 aw fun af=>
ex_i64 ax fun ag=>
callQ pg KK.gl (mpushs ((300041,some ⟨[intA (0),intA (0)],38⟩)::(mpushs (mpushs (mpushs (mpushs (mpushs (mpushs (mpushs (mpushs (mpushs (mpushs (mpushs (mpushs (mpushs m d65) d66) d67) d69) d70) d71) d73) d74) d75) d77) d78) d79) d81)) d82) 246 [d,AV.agg [intA af,intA ag]] fun ay=>
ex_i64 ay fun c=>
bif (c==(1)) then (
retL R (mpushs ((300041,some ⟨[intA (0),intA (0)],38⟩)::(mpushs (mpushs (mpushs (mpushs (mpushs (mpushs (mpushs (mpushs (mpushs (mpushs (mpushs (mpushs (mpushs m d65) d66) d67) d69) d70) d71) d73) d74) d75) d77) d78) d79) d81)) d82) [some (boolA true)]) else (
bif (c==(0)) then (
opP (lenS d) fun az=>
ex_i64 az fun ba=>
Tri pg KK 127 0 (.loop c305_0_1_0) ⟨[(0,q),(1,d),(4,(boolA r)),(6,(AV.ptr 100010 0)),(7,(AV.ptr 100011 0)),(8,b),(11,(intA a)),(17,(intA s)),(18,(intA j)),(49,(intA a)),(50,b),(51,(intA e)),(52,(boolA (decide (a<e)))),(55,b),(56,(intA a)),(57,t),(58,(AV.agg [intA u,intA v])),(59,b),(60,(intA a)),(61,(intA (IntKind.wrap .i64 (a-(1))))),(62,w),(63,(AV.agg [intA x,intA y])),(64,(boolA z)),(65,b),(66,(intA a)),(67,aa),(68,k),(69,(intA f)),(70,b),(71,(intA a)),(72,(intA (IntKind.wrap .i64 (a-(1))))),(73,ab),(74,l),(75,(intA g)),(76,(intA (IntKind.wrap .i64 (f+g)))),(77,(intA (IntKind.wrap .i64 (Int.tdiv (IntKind.wrap .i64 (f+g)) (2))))),(78,b),(79,(intA a)),(80,ad),(81,n),(82,(intA h)),(83,b),(84,(intA a)),(85,(intA (IntKind.wrap .i64 (a-(1))))),(86,ae),(87,o),(88,(intA i)),(89,(intA (IntKind.wrap .i64 (h+i)))),(90,(intA (IntKind.wrap .i64 (Int.tdiv (IntKind.wrap .i64 (h+i)) (2))))),(91,p),(12,(AV.ptr 300041 0)),(92,d),(93,(AV.agg [intA af,intA ag])),(94,(intA c)),(96,(boolA (c==(1)))),(95,(boolA (c==(1)))),(98,(boolA (c==(0)))),(97,(boolA (c==(0)))),(99,d),(100,(intA ba)),(101,(intA (0)))],mpushs ((300041,some ⟨[intA (0),intA (0)],38⟩)::(mpushs (mpushs (mpushs (mpushs (mpushs (mpushs (mpushs (mpushs (mpushs (mpushs (mpushs (mpushs (mpushs m d65) d66) d67) d69) d70) d71) d73) d74) d75) d77) d78) d79) d81)) d82,300116⟩ (q305_0_1_0 R N0 N1)) else (
N1 ⟨[(0,q),(1,d),(4,(boolA r)),(6,(AV.ptr 100010 0)),(7,(AV.ptr 100011 0)),(8,b),(11,(intA (IntKind.wrap .i64 (a+(1))))),(17,(intA s)),(18,(intA j)),(49,(intA a)),(50,b),(51,(intA e)),(52,(boolA (decide (a<e)))),(55,b),(56,(intA a)),(57,t),(58,(AV.agg [intA u,intA v])),(59,b),(60,(intA a)),(61,(intA (IntKind.wrap .i64 (a-(1))))),(62,w),(63,(AV.agg [intA x,intA y])),(64,(boolA z)),(65,b),(66,(intA a)),(67,aa),(68,k),(69,(intA f)),(70,b),(71,(intA a)),(72,(intA (IntKind.wrap .i64 (a-(1))))),(73,ab),(74,l),(75,(intA g)),(76,(intA (IntKind.wrap .i64 (f+g)))),(77,(intA (IntKind.wrap .i64 (Int.tdiv (IntKind.wrap .i64 (f+g)) (2))))),(78,b),(79,(intA a)),(80,ad),(81,n),(82,(intA h)),(83,b),(84,(intA a)),(85,(intA (IntKind.wrap .i64 (a-(1))))),(86,ae),(87,o),(88,(intA i)),(89,(intA (IntKind.wrap .i64 (h+i)))),(90,(intA (IntKind.wrap .i64 (Int.tdiv (IntKind.wrap .i64 (h+i)) (2))))),(91,p),(12,(AV.ptr 300041 0)),(92,d),(93,(AV.agg [intA af,intA ag])),(94,(intA c)),(96,(boolA (c==(1)))),(95,(boolA (c==(1)))),(98,(boolA (c==(0)))),(97,(boolA (c==(0)))),(53,(intA a)),(54,(intA (IntKind.wrap .i64 (a+(1)))))],mpushs ((300041,some ⟨[intA (0),intA (0)],38⟩)::(mpushs (mpushs (mpushs (mpushs (mpushs (mpushs (mpushs (mpushs (mpushs (mpushs (mpushs (mpushs (mpushs m d65) d66) d67) d69) d70) d71) d73) d74) d75) d77) d78) d79) d81)) d82,300116⟩))))) else (
N0 ⟨[(0,q),(1,d),(4,(boolA r)),(6,(AV.ptr 100010 0)),(7,(AV.ptr 100011 0)),(8,b),(11,(intA a)),(17,(intA s)),(18,(intA (IntKind.wrap .i64 (j+(1))))),(49,(intA a)),(50,b),(51,(intA e)),(52,(boolA (decide (a<e)))),(126,(intA (IntKind.wrap .i64 (j+(1)))))],m,300006⟩)
theorem B305_0_1_eq (a b:AV) (c:Bool) (d:AV) (e f g:Int) (m:Mem) (R:AV→Mem→Prop) (N0 N1:St→Prop):W pg KK 127 0 c305_0_1 (h305_0_1 a b c d e f g m) (qq305_0_1 R N0 N1)=B305_0_1 a b c d e f g m R N0 N1:=by kernel_rfl
theorem L305_0_1 (R:AV→Mem→Prop) (N0:St→Prop) {σ:Type} (I:σ→Prop) (a b:σ→AV) (c:σ→Bool) (d:σ→AV) (e f g:σ→Int) (m:σ→Mem) (μ:σ→Nat) (step:∀x,I x→B305_0_1 (a x) (b x) (c x) (d x) (e x) (f x) (g x) (m x) R N0 (fun s'=>∃y,I y∧μ y<μ x∧Weak KK 127 0 s' (h305_0_1 (a y) (b y) (c y) (d y) (e y) (f y) (g y) (m y)))) (x:σ) (hx:I x) {s:St} (hw:Weak KK 127 0 s (h305_0_1 (a x) (b x) (c x) (d x) (e x) (f x) (g x) (m x))):Tri pg KK 127 0 (.loop c305_0_1) s (q305_0_1 R N0):=
 Tri.weak hw (Tri.loops fol I (fun x=>h305_0_1 (a x) (b x) (c x) (d x) (e x) (f x) (g x) (m x)) μ (fun x hx=>(B305_0_1_eq (a x) (b x) (c x) (d x) (e x) (f x) (g x) (m x) R N0 _).mpr (step x hx)) x hx)
noncomputable def B305_0_1_0 (k b:AV) (l:Bool) (n:AV) (d o p c a:Int) (m:Mem) (R:AV→Mem→Prop) (N0 N1 N2:St→Prop):Prop:=
bif (decide (a<c)) then (
opM (idxS 2 b (intA a)) fun e d92=>
opM (ldA (look' (mpushs m d92) (topId e++([]))) 2 e) fun ak d93=>
exA2 ak fun al am=>
ex_i64 al fun f=>
ex_i64 am fun g=>
callF pg KK.gl (mpushs (mpushs m d92) d93) 400009 300 [b,intA a] fun an d98 ft98=>
exA2 an fun ao ap=>
ex_i64 ao fun h=>
ex_i64 ap fun i=>
storeW pg (look' ((400011,some ⟨[intA (0),intA (0)],38⟩)::(400010,some ⟨[intA (0),intA (0)],38⟩)::(mpushs (mpushs (mpushs m d92) d93) d98)) (topId (AV.ptr 400010 0)++(topId (AV.agg [intA f,intA g])++([])))) 38 (AV.ptr 400010 0) (AV.agg [intA f,intA g]) fun bs d103=>
storeW pg (look' (mpushs ((400011,some ⟨[intA (0),intA (0)],38⟩)::(400010,some ⟨[intA (0),intA (0)],38⟩)::(mpushs (mpushs (mpushs m d92) d93) d98)) d103) (topId (AV.ptr 400011 0)++(topId (AV.agg [intA h,intA i])++([])))) 38 (AV.ptr 400011 0) (AV.agg [intA h,intA i]) fun bt d104=>
chk (confOk [0,0,3,7,0,0,48,0,0,511,1023] [⟨[],[]⟩,⟨[],[]⟩,⟨d92,[]⟩,⟨d93,topId e++([])⟩,⟨[],[]⟩,⟨[],[]⟩,⟨d98,ft98⟩,⟨[(400010,some ⟨[intA (0),intA (0)],38⟩)],[]⟩,⟨[(400011,some ⟨[intA (0),intA (0)],38⟩)],[]⟩,⟨d103,topId (AV.ptr 400010 0)++(topId (AV.agg [intA f,intA g])++([]))⟩,⟨d104,topId (AV.ptr 400011 0)++(topId (AV.agg [intA h,intA i])++([]))⟩]) (opP (ldA (mget (mpushs (mpushs ((400011,some ⟨[intA (0),intA (0)],38⟩)::(400010,some ⟨[intA (0),intA (0)],38⟩)::(mpushs (mpushs (mpushs m d92) d93) d98)) d103) d104)) 2 (AV.ptr 400010 0)) fun aq=>
exA2 aq fun ar au=>
ex_i64 ar fun q=>
ex_i64 au fun r=>
opP (ldA (mget (mpushs (mpushs ((400011,some ⟨[intA (0),intA (0)],38⟩)::(400010,some ⟨[intA (0),intA (0)],38⟩)::(mpushs (mpushs (mpushs m d92) d93) d98)) d103) d104)) 2 (AV.ptr 400011 0)) fun av=>
exA2 av fun aw c112=>
ex_i64 aw fun s=>
ex_i64 c112 fun t=>
opP (ldA (mget (mpushs (mpushs ((400011,some ⟨[intA (0),intA (0)],38⟩)::(400010,some ⟨[intA (0),intA (0)],38⟩)::(mpushs (mpushs (mpushs m d92) d93) d98)) d103) d104)) 2 (AV.ptr 300041 0)) fun ax=>
exA2 ax fun ay az=>
ex_i64 ay fun u=>
ex_i64 az fun v=>
callQ pg KK.gl (mpushs (mpushs ((400011,some ⟨[intA (0),intA (0)],38⟩)::(400010,some ⟨[intA (0),intA (0)],38⟩)::(mpushs (mpushs (mpushs m d92) d93) d98)) d103) d104) 306 [AV.agg [intA q,intA r],AV.agg [intA s,intA t],AV.agg [intA u,intA v]] fun ba=>
exB ba fun w=>
bif w then (
opP (ldA (mget (mpushs (mpushs ((400011,some ⟨[intA (0),intA (0)],38⟩)::(400010,some ⟨[intA (0),intA (0)],38⟩)::(mpushs (mpushs (mpushs m d92) d93) d98)) d103) d104)) 2 (AV.ptr 100011 0)) fun bb=>
exA2 bb fun bc bd=>
ex_i64 bc fun x=>
ex_i64 bd fun y=>
opP (ldA (mget (mpushs (mpushs ((400011,some ⟨[intA (0),intA (0)],38⟩)::(400010,some ⟨[intA (0),intA (0)],38⟩)::(mpushs (mpushs (mpushs m d92) d93) d98)) d103) d104)) 2 (AV.ptr 100010 0)) fun be=>
exA2 be fun bf bg=>
ex_i64 bf fun z=>
ex_i64 bg fun aa=>
callQ pg KK.gl (mpushs (mpushs ((400011,some ⟨[intA (0),intA (0)],38⟩)::(400010,some ⟨[intA (0),intA (0)],38⟩)::(mpushs (mpushs (mpushs m d92) d93) d98)) d103) d104) 242 [AV.agg [intA x,intA y],AV.agg [intA z,intA aa]] fun bh=>
exA2 bh fun bi bj=>
ex_i64 bi fun ab=>
ex_i64 bj fun ad=>
opP (ldA (mget (mpushs (mpushs ((400011,some ⟨[intA (0),intA (0)],38⟩)::(400010,some ⟨[intA (0),intA (0)],38⟩)::(mpushs (mpushs (mpushs m d92) d93) d98)) d103) d104)) 2 (AV.ptr 400011 0)) fun bk=>
exA2 bk fun c138 bl=>
ex_i64 c138 fun ae=>
ex_i64 bl fun af=>
opP (ldA (mget (mpushs (mpushs ((400011,some ⟨[intA (0),intA (0)],38⟩)::(400010,some ⟨[intA (0),intA (0)],38⟩)::(mpushs (mpushs (mpushs m d92) d93) d98)) d103) d104)) 2 (AV.ptr 400010 0)) fun bm=>
exA2 bm fun bn c144=>
ex_i64 bn fun ag=>
ex_i64 c144 fun ah=>
callQ pg KK.gl (mpushs (mpushs ((400011,some ⟨[intA (0),intA (0)],38⟩)::(400010,some ⟨[intA (0),intA (0)],38⟩)::(mpushs (mpushs (mpushs m d92) d93) d98)) d103) d104) 242 [AV.agg [intA ae,intA af],AV.agg [intA ag,intA ah]] fun bo=>
exA2 bo fun bp bq=>
ex_i64 bp fun ai=>
ex_i64 bq fun aj=>
callQ pg KK.gl (mpushs (mpushs ((400011,some ⟨[intA (0),intA (0)],38⟩)::(400010,some ⟨[intA (0),intA (0)],38⟩)::(mpushs (mpushs (mpushs m d92) d93) d98)) d103) d104) 326 [AV.agg [intA ab,intA ad],AV.agg [intA ai,intA aj]] fun br=>
ex_i64 br fun j=>
bif (decide (j>(0))) then (
retL R (mpushs (mpushs ((400011,some ⟨[intA (0),intA (0)],38⟩)::(400010,some ⟨[intA (0),intA (0)],38⟩)::(mpushs (mpushs (mpushs m d92) d93) d98)) d103) d104) [some (boolA true)]) else (
N2 ⟨[(0,k),(1,b),(4,(boolA l)),(6,(AV.ptr 100010 0)),(7,(AV.ptr 100011 0)),(8,n),(11,(intA d)),(12,(AV.ptr 300041 0)),(17,(intA o)),(18,(intA p)),(100,(intA c)),(101,(intA (IntKind.wrap .i64 (a+(1))))),(102,(boolA (decide (a<c)))),(103,(intA a)),(13,(intA a)),(104,b),(105,(intA a)),(106,e),(107,(AV.agg [intA f,intA g])),(108,b),(109,(intA a)),(110,(AV.agg [intA h,intA i])),(14,(AV.ptr 400010 0)),(15,(AV.ptr 400011 0)),(111,(AV.agg [intA q,intA r])),(112,(AV.agg [intA s,intA t])),(113,(AV.agg [intA u,intA v])),(114,(boolA w)),(115,(boolA true)),(116,(AV.agg [intA x,intA y])),(117,(AV.agg [intA z,intA aa])),(118,(AV.agg [intA ab,intA ad])),(119,(AV.agg [intA ae,intA af])),(120,(AV.agg [intA ag,intA ah])),(121,(AV.agg [intA ai,intA aj])),(122,(intA j)),(123,(boolA (decide (j>(0))))),(124,(boolA (decide (j>(0))))),(125,(intA (IntKind.wrap .i64 (a+(1)))))],mpushs (mpushs ((400011,some ⟨[intA (0),intA (0)],38⟩)::(400010,some ⟨[intA (0),intA (0)],38⟩)::(mpushs (mpushs (mpushs m d92) d93) d98)) d103) d104,400030⟩)) else (
N2 ⟨[(0,k),(1,b),(4,(boolA l)),(6,(AV.ptr 100010 0)),(7,(AV.ptr 100011 0)),(8,n),(11,(intA d)),(12,(AV.ptr 300041 0)),(17,(intA o)),(18,(intA p)),(100,(intA c)),(101,(intA (IntKind.wrap .i64 (a+(1))))),(102,(boolA (decide (a<c)))),(103,(intA a)),(13,(intA a)),(104,b),(105,(intA a)),(106,e),(107,(AV.agg [intA f,intA g])),(108,b),(109,(intA a)),(110,(AV.agg [intA h,intA i])),(14,(AV.ptr 400010 0)),(15,(AV.ptr 400011 0)),(111,(AV.agg [intA q,intA r])),(112,(AV.agg [intA s,intA t])),(113,(AV.agg [intA u,intA v])),(114,(boolA w)),(115,(boolA false)),(116,(AV.tup [])),(117,(AV.tup [])),(118,(AV.tup [])),(119,(AV.tup [])),(120,(AV.tup [])),(121,(AV.tup [])),(122,(AV.tup [])),(123,(AV.tup [])),(124,(boolA false)),(125,(intA (IntKind.wrap .i64 (a+(1)))))],mpushs (mpushs ((400011,some ⟨[intA (0),intA (0)],38⟩)::(400010,some ⟨[intA (0),intA (0)],38⟩)::(mpushs (mpushs (mpushs m d92) d93) d98)) d103) d104,400030⟩))) else (
N1 ⟨[(0,k),(1,b),(4,(boolA l)),(6,(AV.ptr 100010 0)),(7,(AV.ptr 100011 0)),(8,n),(11,(intA (IntKind.wrap .i64 (d+(1))))),(12,(AV.ptr 300041 0)),(17,(intA o)),(18,(intA p)),(100,(intA c)),(101,(intA a)),(102,(boolA (decide (a<c)))),(53,(intA d)),(54,(intA (IntKind.wrap .i64 (d+(1)))))],m,400004⟩)
theorem B305_0_1_0_eq (a b:AV) (c:Bool) (d:AV) (e f g h i:Int) (m:Mem) (R:AV→Mem→Prop) (N0 N1 N2:St→Prop):W pg KK 127 0 c305_0_1_0 (h305_0_1_0 a b c d e f g h i m) (qq305_0_1_0 R N0 N1 N2)=B305_0_1_0 a b c d e f g h i m R N0 N1 N2:=by kernel_rfl
theorem L305_0_1_0 (R:AV→Mem→Prop) (N0 N1:St→Prop) {σ:Type} (I:σ→Prop) (a b:σ→AV) (c:σ→Bool) (d:σ→AV) (e f g h i:σ→Int) (m:σ→Mem) (μ:σ→Nat) (step:∀x,I x→B305_0_1_0 (a x) (b x) (c x) (d x) (e x) (f x) (g x) (h x) (i x) (m x) R N0 N1 (fun s'=>∃y,I y∧μ y<μ x∧Weak KK 127 0 s' (h305_0_1_0 (a y) (b y) (c y) (d y) (e y) (f y) (g y) (h y) (i y) (m y)))) (x:σ) (hx:I x) {s:St} (hw:Weak KK 127 0 s (h305_0_1_0 (a x) (b x) (c x) (d x) (e x) (f x) (g x) (h x) (i x) (m x))):Tri pg KK 127 0 (.loop c305_0_1_0) s (q305_0_1_0 R N0 N1):=
 Tri.weak hw (Tri.loops fol I (fun x=>h305_0_1_0 (a x) (b x) (c x) (d x) (e x) (f x) (g x) (h x) (i x) (m x)) μ (fun x hx=>(B305_0_1_0_eq (a x) (b x) (c x) (d x) (e x) (f x) (g x) (h x) (i x) (m x) R N0 N1 _).mpr (step x hx)) x hx)
noncomputable def F305 (a b:AV) (R:AV→Mem→Prop):Prop:=
opP (lenS a) fun c=>
ex_i64 c fun d=>
Tri pg KK 127 0 (.loop c305_0) ⟨[(0,a),(1,b),(4,(boolA false)),(16,a),(17,(intA d)),(18,(intA (0)))],[],4⟩ (q305_0 R)
theorem F305_own (a b:AV) (R:AV→Mem→Prop) (h:F305 a b R):Own pg KK.gl 305 [a,b] R:=own_of_F fol Tryz.func305 (code:=c305) krE krE krE (X:=F305 a b R) krE h
/- skyway/polygon.Overlap -/
noncomputable def c244:Code:=((Tryz.f244).body).getD .skip
noncomputable def q244 (R:AV→Mem→Prop):AExit→St→Prop:=retQ pg Tryz.f244 R
noncomputable def c244_0:Code:=loopB c244 0
noncomputable def q244_0 (R:AV→Mem→Prop):AExit→St→Prop:=contW pg KK 64 0 c244 0 (q244 R)
noncomputable def qq244_0 (R:AV→Mem→Prop) (N0:St→Prop):AExit→St→Prop:=thenQ N0 (q244_0 R)
def h244_0 (a b:AV) (c:Bool) (d:Int) (e:AV) (f g:Int) (m:Mem):St:=⟨[(0,a),(1,b),(4,(boolA c)),(5,(intA d)),(13,e),(14,(intA f)),(15,(intA g))],m,100000⟩
noncomputable def c244_1:Code:=loopB c244 1
noncomputable def q244_1 (R:AV→Mem→Prop):AExit→St→Prop:=contW pg KK 64 0 c244 1 (q244 R)
noncomputable def qq244_1 (R:AV→Mem→Prop) (N0:St→Prop):AExit→St→Prop:=thenQ N0 (q244_1 R)
def h244_1 (a b:AV) (c:Bool) (d e f:Int) (m:Mem):St:=⟨[(0,a),(1,b),(4,(boolA c)),(5,(intA d)),(26,(intA e)),(27,(intA f))],m,200000⟩
noncomputable def c244_1_0:Code:=loopB c244_1 0
noncomputable def q244_1_0 (R:AV→Mem→Prop) (N0:St→Prop):AExit→St→Prop:=contW pg KK 64 0 c244_1 0 (qq244_1 R N0)
noncomputable def qq244_1_0 (R:AV→Mem→Prop) (N0 N1:St→Prop):AExit→St→Prop:=thenQ N1 (q244_1_0 R N0)
def h244_1_0 (a b:AV) (c:Bool) (d e f g h i:Int) (m:Mem):St:=⟨[(0,a),(1,b),(4,(boolA c)),(5,(intA d)),(9,(intA e)),(26,(intA f)),(27,(intA g)),(31,(intA h)),(32,(intA i))],m,300000⟩
noncomputable def B244_0 (d g:AV) (h:Bool) (i:Int) (f:AV) (c a:Int) (m:Mem) (R:AV→Mem→Prop) (N0:St→Prop):Prop:=
bif (decide (a<c)) then (
opP (idxS 1 f (intA a)) fun j=>
opP (ldS (mget m) j) fun e=>
callQ pg KK.gl m 243 [e] fun k=>
ex_i64 k fun b=>
bif (b !=(0)) then (
retL R m [some (boolA false),some (intA b)]) else (
N0 ⟨[(0,d),(1,g),(4,(boolA h)),(5,(intA i)),(13,f),(14,(intA c)),(15,(intA (IntKind.wrap .i64 (a+(1))))),(16,(boolA (decide (a<c)))),(17,j),(18,e),(7,e),(19,e),(20,(intA b)),(8,(intA b)),(21,(intA b)),(22,(boolA (b !=(0)))),(24,(intA (IntKind.wrap .i64 (a+(1)))))],m,100074⟩)) else (
opP (lenS d) fun l=>
ex_i64 l fun n=>
Tri pg KK 64 0 (.loop c244_1) ⟨[(0,d),(1,g),(4,(boolA h)),(5,(intA i)),(13,f),(14,(intA c)),(15,(intA a)),(16,(boolA (decide (a<c)))),(25,d),(26,(intA n)),(27,(intA (0)))],m,100004⟩ (q244_1 R))
theorem B244_0_eq (a b:AV) (c:Bool) (d:Int) (e:AV) (f g:Int) (m:Mem) (R:AV→Mem→Prop) (N0:St→Prop):W pg KK 64 0 c244_0 (h244_0 a b c d e f g m) (qq244_0 R N0)=B244_0 a b c d e f g m R N0:=by kernel_rfl
theorem L244_0 (R:AV→Mem→Prop) {σ:Type} (I:σ→Prop) (a b:σ→AV) (c:σ→Bool) (d:σ→Int) (e:σ→AV) (f g:σ→Int) (m:σ→Mem) (μ:σ→Nat) (step:∀x,I x→B244_0 (a x) (b x) (c x) (d x) (e x) (f x) (g x) (m x) R (fun s'=>∃y,I y∧μ y<μ x∧Weak KK 64 0 s' (h244_0 (a y) (b y) (c y) (d y) (e y) (f y) (g y) (m y)))) (x:σ) (hx:I x) {s:St} (hw:Weak KK 64 0 s (h244_0 (a x) (b x) (c x) (d x) (e x) (f x) (g x) (m x))):Tri pg KK 64 0 (.loop c244_0) s (q244_0 R):=
 Tri.weak hw (Tri.loops fol I (fun x=>h244_0 (a x) (b x) (c x) (d x) (e x) (f x) (g x) (m x)) μ (fun x hx=>(B244_0_eq (a x) (b x) (c x) (d x) (e x) (f x) (g x) (m x) R _).mpr (step x hx)) x hx)
noncomputable def B244_1 (d b:AV) (g:Bool) (h c a:Int) (m:Mem) (R:AV→Mem→Prop) (N0:St→Prop):Prop:=
bif (decide (a<c)) then (
opP (lenS b) fun i=>
ex_i64 i fun j=>
Tri pg KK 64 0 (.loop c244_1_0) ⟨[(0,d),(1,b),(4,(boolA g)),(5,(intA h)),(26,(intA c)),(27,(intA a)),(28,(boolA (decide (a<c)))),(29,(intA a)),(9,(intA a)),(30,b),(31,(intA j)),(32,(intA (0)))],m,200006⟩ (q244_1_0 R N0)) else (
callQ pg KK.gl m 304 [d] fun e=>
callQ pg KK.gl m 304 [b] fun f=>
callQ pg KK.gl m 305 [e,f] fun k=>
exB k fun l=>
bif l then (
retL R m [some (boolA true),some (intA (0))]) else (
callQ pg KK.gl m 305 [f,e] fun n=>
exB n fun o=>
retL R m [some (boolA o),some (intA (0))]))
theorem B244_1_eq (a b:AV) (c:Bool) (d e f:Int) (m:Mem) (R:AV→Mem→Prop) (N0:St→Prop):W pg KK 64 0 c244_1 (h244_1 a b c d e f m) (qq244_1 R N0)=B244_1 a b c d e f m R N0:=by kernel_rfl
theorem L244_1 (R:AV→Mem→Prop) {σ:Type} (I:σ→Prop) (a b:σ→AV) (c:σ→Bool) (d e f:σ→Int) (m:σ→Mem) (μ:σ→Nat) (step:∀x,I x→B244_1 (a x) (b x) (c x) (d x) (e x) (f x) (m x) R (fun s'=>∃y,I y∧μ y<μ x∧Weak KK 64 0 s' (h244_1 (a y) (b y) (c y) (d y) (e y) (f y) (m y)))) (x:σ) (hx:I x) {s:St} (hw:Weak KK 64 0 s (h244_1 (a x) (b x) (c x) (d x) (e x) (f x) (m x))):Tri pg KK 64 0 (.loop c244_1) s (q244_1 R):=
 Tri.weak hw (Tri.loops fol I (fun x=>h244_1 (a x) (b x) (c x) (d x) (e x) (f x) (m x)) μ (fun x hx=>(B244_1_eq (a x) (b x) (c x) (d x) (e x) (f x) (m x) R _).mpr (step x hx)) x hx)
noncomputable def B244_1_0 (b c:AV) (g:Bool) (h d i f e a:Int) (m:Mem) (R:AV→Mem→Prop) (N0 N1:St→Prop):Prop:=
bif (decide (a<e)) then (
opP (idxS 2 b (intA d)) fun j=>
opP (ldA (mget m) 2 j) fun v=>
exA2 v fun w x=>
ex_i64 w fun k=>
ex_i64 x fun l=>
callQ pg KK.gl m 300 [b,intA d] fun y=>
exA2 y fun z aa=>
ex_i64 z fun n=>
ex_i64 aa fun o=>
opP (idxS 2 c (intA a)) fun p=>
opP (ldA (mget m) 2 p) fun ab=>
exA2 ab fun ad ae=>
ex_i64 ad fun q=>
ex_i64 ae fun r=>
callQ pg KK.gl m 300 [c,intA a] fun af=>
exA2 af fun ag ah=>
ex_i64 ag fun s=>
ex_i64 ah fun t=>
callQ pg KK.gl m 303 [AV.agg [intA k,intA l],AV.agg [intA n,intA o],AV.agg [intA q,intA r],AV.agg [intA s,intA t]] fun ai=>
exB ai fun u=>
bif u then (
retL R m [some (boolA true),some (intA (0))]) else (
N1 ⟨[(0,b),(1,c),(4,(boolA g)),(5,(intA h)),(9,(intA d)),(26,(intA i)),(27,(intA f)),(31,(intA e)),(32,(intA (IntKind.wrap .i64 (a+(1))))),(33,(boolA (decide (a<e)))),(34,(intA a)),(10,(intA a)),(35,b),(36,(intA d)),(37,j),(38,(AV.agg [intA k,intA l])),(39,b),(40,(intA d)),(41,(AV.agg [intA n,intA o])),(42,c),(43,(intA a)),(44,p),(45,(AV.agg [intA q,intA r])),(46,c),(47,(intA a)),(48,(AV.agg [intA s,intA t])),(49,(boolA u)),(50,(intA (IntKind.wrap .i64 (a+(1)))))],m,300020⟩)) else (
N0 ⟨[(0,b),(1,c),(4,(boolA g)),(5,(intA h)),(9,(intA d)),(26,(intA i)),(27,(intA (IntKind.wrap .i64 (f+(1))))),(31,(intA e)),(32,(intA a)),(33,(boolA (decide (a<e)))),(51,(intA (IntKind.wrap .i64 (f+(1)))))],m,300003⟩)
theorem B244_1_0_eq (a b:AV) (c:Bool) (d e f g h i:Int) (m:Mem) (R:AV→Mem→Prop) (N0 N1:St→Prop):W pg KK 64 0 c244_1_0 (h244_1_0 a b c d e f g h i m) (qq244_1_0 R N0 N1)=B244_1_0 a b c d e f g h i m R N0 N1:=by kernel_rfl
theorem L244_1_0 (R:AV→Mem→Prop) (N0:St→Prop) {σ:Type} (I:σ→Prop) (a b:σ→AV) (c:σ→Bool) (d e f g h i:σ→Int) (m:σ→Mem) (μ:σ→Nat) (step:∀x,I x→B244_1_0 (a x) (b x) (c x) (d x) (e x) (f x) (g x) (h x) (i x) (m x) R N0 (fun s'=>∃y,I y∧μ y<μ x∧Weak KK 64 0 s' (h244_1_0 (a y) (b y) (c y) (d y) (e y) (f y) (g y) (h y) (i y) (m y)))) (x:σ) (hx:I x) {s:St} (hw:Weak KK 64 0 s (h244_1_0 (a x) (b x) (c x) (d x) (e x) (f x) (g x) (h x) (i x) (m x))):Tri pg KK 64 0 (.loop c244_1_0) s (q244_1_0 R N0):=
 Tri.weak hw (Tri.loops fol I (fun x=>h244_1_0 (a x) (b x) (c x) (d x) (e x) (f x) (g x) (h x) (i x) (m x)) μ (fun x hx=>(B244_1_0_eq (a x) (b x) (c x) (d x) (e x) (f x) (g x) (h x) (i x) (m x) R N0 _).mpr (step x hx)) x hx)
noncomputable def F244 (a b:AV) (R:AV→Mem→Prop):Prop:=
opN (bsl 4 295 1 2 [AV.nils] [(0,a),(1,b)]) [] fun c d=>
opP (lenS c) fun e=>
ex_i64 e fun f=>
Tri pg KK 64 0 (.loop c244_0) ⟨[(0,a),(1,b),(4,(boolA false)),(5,(intA (0))),(11,a),(12,b),(13,c),(14,(intA f)),(15,(intA (0)))],d,7⟩ (q244_0 R)
theorem F244_own (a b:AV) (R:AV→Mem→Prop) (h:F244 a b R):Own pg KK.gl 244 [a,b] R:=own_of_F fol Tryz.func244 (code:=c244) krE krE krE (X:=F244 a b R) krE h
/- skyway/volume.Overlap -/
noncomputable def c176:Code:=((Tryz.f176).body).getD .skip
noncomputable def q176 (R:AV→Mem→Prop):AExit→St→Prop:=retQ pg Tryz.f176 R
noncomputable def c176_0:Code:=loopB c176 0
noncomputable def q176_0 (R:AV→Mem→Prop):AExit→St→Prop:=contW pg KK 52 0 c176 0 (q176 R)
noncomputable def qq176_0 (R:AV→Mem→Prop) (N0:St→Prop):AExit→St→Prop:=thenQ N0 (q176_0 R)
def h176_0 (a:Bool) (b:Int) (c:AV) (d e:Int) (m:Mem):St:=⟨[(2,(AV.ptr 0 0)),(3,(AV.ptr 1 0)),(4,(boolA a)),(5,(intA b)),(13,c),(14,(intA d)),(15,(intA e))],m,100000⟩
noncomputable def B176_0 (i:Bool) (j:Int) (g:AV) (f d:Int) (m:Mem) (R:AV→Mem→Prop) (N0:St→Prop):Prop:=
bif (decide (d<f)) then (
opP (idxS 3 g (intA d)) fun h=>
opP (ldA (mget m) 3 h) fun k=>
exA3 k fun c5 c6 c7=>
ex_i64 c6 fun a=>
ex_i64 c7 fun b=>
chk (isCell c5)<|callQ pg KK.gl ((100003,some ⟨[c5,intA a,intA b],297⟩)::(100003,some ⟨[AV.nils,intA (0),intA (0)],297⟩)::m) 173 [AV.agg [c5,intA a,intA b]] fun l=>
ex_i64 l fun c=>
bif (c !=(0)) then (
retL R ((100003,some ⟨[c5,intA a,intA b],297⟩)::(100003,some ⟨[AV.nils,intA (0),intA (0)],297⟩)::m) [some (boolA false),some (intA c)]) else (
N0 ⟨[(2,(AV.ptr 0 0)),(3,(AV.ptr 1 0)),(4,(boolA i)),(5,(intA j)),(13,g),(14,(intA f)),(15,(intA (IntKind.wrap .i64 (d+(1))))),(16,(boolA (decide (d<f)))),(17,h),(18,(AV.agg [c5,intA a,intA b])),(7,(AV.ptr 100003 0)),(19,(AV.agg [c5,intA a,intA b])),(20,(intA c)),(8,(intA c)),(21,(intA c)),(22,(boolA (c !=(0)))),(24,(intA (IntKind.wrap .i64 (d+(1)))))],((100003,some ⟨[c5,intA a,intA b],297⟩)::(100003,some ⟨[AV.nils,intA (0),intA (0)],297⟩)::m),100075⟩)) else (
opP (ldS (mget m) (AV.ptr 0 0)) fun n=>
opP (ldS (mget m) (AV.ptr 1 0)) fun o=>
callQ pg KK.gl m 244 [n,o] fun p=>
exT2 p fun q r=>
exB q fun s=>
ex_i64 r fun e=>
bif (e==(0)) then (
bif s then (
opP (ldS (mget m) (AV.ptr 0 1)) fun t=>
ex_i64 t fun u=>
opP (ldS (mget m) (AV.ptr 1 1)) fun v=>
ex_i64 v fun w=>
opP (opA pg (.call ⟨.builtin .max,#[.tmp 0,.tmp 1],#[3,3]⟩) 3 [intA u,intA w] (mget m) 100084) fun x=>
ex_i64 x fun y=>
opP (ldS (mget m) (AV.ptr 0 2)) fun z=>
ex_i64 z fun aa=>
opP (ldS (mget m) (AV.ptr 1 2)) fun ab=>
ex_i64 ab fun ad=>
opP (opA pg (.call ⟨.builtin .min,#[.tmp 0,.tmp 1],#[3,3]⟩) 3 [intA aa,intA ad] (mget m) 100089) fun ae=>
ex_i64 ae fun af=>
retL R m [some (boolA (decide (y<af))),some (intA e)]) else (
retL R m [some (boolA false),some (intA e)])) else (
retL R m [some (boolA false),some (intA e)]))
theorem B176_0_eq (a:Bool) (b:Int) (c:AV) (d e:Int) (m:Mem) (R:AV→Mem→Prop) (N0:St→Prop):W pg KK 52 0 c176_0 (h176_0 a b c d e m) (qq176_0 R N0)=B176_0 a b c d e m R N0:=by kernel_rfl
theorem L176_0 (R:AV→Mem→Prop) {σ:Type} (I:σ→Prop) (a:σ→Bool) (b:σ→Int) (c:σ→AV) (d e:σ→Int) (m:σ→Mem) (μ:σ→Nat) (step:∀x,I x→B176_0 (a x) (b x) (c x) (d x) (e x) (m x) R (fun s'=>∃y,I y∧μ y<μ x∧Weak KK 52 0 s' (h176_0 (a y) (b y) (c y) (d y) (e y) (m y)))) (x:σ) (hx:I x) {s:St} (hw:Weak KK 52 0 s (h176_0 (a x) (b x) (c x) (d x) (e x) (m x))):Tri pg KK 52 0 (.loop c176_0) s (q176_0 R):=
 Tri.weak hw (Tri.loops fol I (fun x=>h176_0 (a x) (b x) (c x) (d x) (e x) (m x)) μ (fun x hx=>(B176_0_eq (a x) (b x) (c x) (d x) (e x) (m x) R _).mpr (step x hx)) x hx)
noncomputable def F176 (a:AV) (c d:Int) (b:AV) (e f:Int) (R:AV→Mem→Prop):Prop:=
chk (isCell a)<|chk (isCell b)<|opN (bsl 6 297 3 2 [AV.nils,intA (0),intA (0)] [(0,(AV.agg [a,intA c,intA d])),(1,(AV.agg [b,intA e,intA f]))]) ((1,some ⟨[b,intA e,intA f],297⟩)::(0,some ⟨[a,intA c,intA d],297⟩)::[]) fun g h=>
opP (lenS g) fun i=>
ex_i64 i fun j=>
Tri pg KK 52 0 (.loop c176_0) ⟨[(0,(AV.agg [a,intA c,intA d])),(1,(AV.agg [b,intA e,intA f])),(2,(AV.ptr 0 0)),(3,(AV.ptr 1 0)),(4,(boolA false)),(5,(intA (0))),(11,(AV.agg [a,intA c,intA d])),(12,(AV.agg [b,intA e,intA f])),(13,g),(14,(intA j)),(15,(intA (0)))],h,9⟩ (q176_0 R)
theorem F176_own (a:AV) (b c:Int) (d:AV) (e f:Int) (R:AV→Mem→Prop) (h:F176 a b c d e f R):Own pg KK.gl 176 [AV.agg [a,intA b,intA c],AV.agg [d,intA e,intA f]] R:=own_of_F fol Tryz.func176 (code:=c176) krE krE krE (X:=F176 a b c d e f R) krE h
/- skyway/sector.Check -/
noncomputable def c110:Code:=((Tryz.f110).body).getD .skip
noncomputable def q110 (R:AV→Mem→Prop):AExit→St→Prop:=retQ pg Tryz.f110 R
noncomputable def c110_0:Code:=loopB c110 0
noncomputable def q110_0 (R:AV→Mem→Prop):AExit→St→Prop:=contW pg KK 87 0 c110 0 (q110 R)
noncomputable def qq110_0 (R:AV→Mem→Prop) (N0:St→Prop):AExit→St→Prop:=thenQ N0 (q110_0 R)
def h110_0 (a:AV) (b:Int) (c d:AV) (e f:Int) (m:Mem):St:=⟨[(0,a),(2,(intA b)),(3,c),(18,d),(19,(intA e)),(20,(intA f))],m,100000⟩
noncomputable def c110_0_0:Code:=loopB c110_0 0
noncomputable def q110_0_0 (R:AV→Mem→Prop) (N0:St→Prop):AExit→St→Prop:=contW pg KK 87 0 c110_0 0 (qq110_0 R N0)
noncomputable def qq110_0_0 (R:AV→Mem→Prop) (N0 N1:St→Prop):AExit→St→Prop:=thenQ N1 (q110_0_0 R N0)
def h110_0_0 (a:AV) (b:Int) (c:AV) (d:Int) (e:AV) (f g:Int) (h:AV) (i j:Int) (k:ByteArray) (l:AV) (m:Mem):St:=⟨[(0,a),(2,(intA b)),(3,c),(4,(intA d)),(5,(AV.ptr 100004 0)),(18,e),(19,(intA f)),(20,(intA g)),(41,h),(42,(intA i)),(43,(intA j))],((100004,some ⟨[AV.sc (.string k),l],293⟩)::m),200000⟩
noncomputable def c110_1:Code:=loopB c110 1
noncomputable def q110_1 (R:AV→Mem→Prop):AExit→St→Prop:=contW pg KK 87 0 c110 1 (q110 R)
noncomputable def qq110_1 (R:AV→Mem→Prop) (N0:St→Prop):AExit→St→Prop:=thenQ N0 (q110_1 R)
def h110_1 (a:Int) (b c:AV) (d e:Int) (m:Mem):St:=⟨[(2,(intA a)),(3,b),(63,c),(64,(intA d)),(65,(intA e))],m,200000⟩
noncomputable def c110_1_0:Code:=loopB c110_1 0
noncomputable def q110_1_0 (R:AV→Mem→Prop) (N0:St→Prop):AExit→St→Prop:=contW pg KK 87 0 c110_1 0 (qq110_1 R N0)
noncomputable def qq110_1_0 (R:AV→Mem→Prop) (N0 N1:St→Prop):AExit→St→Prop:=thenQ N1 (q110_1_0 R N0)
def h110_1_0 (a:Int) (b c:AV) (d e:Int) (f:AV) (g h:Int) (i:AV) (j k:Int) (m:Mem):St:=⟨[(2,(intA a)),(3,b),(10,(AV.ptr 200004 0)),(63,c),(64,(intA d)),(65,(intA e)),(72,f),(73,(intA g)),(74,(intA h))],((200004,some ⟨[i,intA j,intA k],297⟩)::m),300000⟩
noncomputable def B110_0 (h:AV) (i:Int) (c g:AV) (b a:Int) (m:Mem) (R:AV→Mem→Prop) (N0:St→Prop):Prop:=
bif (decide (a<b)) then (
opP (idxS 2 g (intA a)) fun j=>
opP (ldA (mget m) 2 j) fun k=>
exA2 k fun c6 c7=>
exStr c6 fun s8=>
chk (isCell c7)<|callQ pg KK.gl ((100004,some ⟨[AV.sc (.string s8),c7],293⟩)::(100004,some ⟨[AV.sc (.string ⟨#[]⟩),AV.nils],293⟩)::m) 172 [AV.sc (.string s8)] fun l=>
exB l fun d=>
bif (!d) then (
retL R ((100004,some ⟨[AV.sc (.string s8),c7],293⟩)::(100004,some ⟨[AV.sc (.string ⟨#[]⟩),AV.nils],293⟩)::m) [some (intA (3))]) else (
opP (lenS c7) fun n=>
ex_i64 n fun e=>
bif (e==(0)) then (
retL R ((100004,some ⟨[AV.sc (.string s8),c7],293⟩)::(100004,some ⟨[AV.sc (.string ⟨#[]⟩),AV.nils],293⟩)::m) [some (intA (8))]) else (
opP (lenS c7) fun o=>
ex_i64 o fun f=>
bif (decide (f>(4))) then (
retL R ((100004,some ⟨[AV.sc (.string s8),c7],293⟩)::(100004,some ⟨[AV.sc (.string ⟨#[]⟩),AV.nils],293⟩)::m) [some (intA (2))]) else (
opP (lenS c7) fun p=>
ex_i64 p fun q=>
Tri pg KK 87 0 (.loop c110_0_0) ⟨[(0,h),(2,(intA i)),(3,c),(18,g),(19,(intA b)),(20,(intA a)),(21,(boolA (decide (a<b)))),(22,(intA a)),(23,j),(24,(AV.agg [AV.sc (.string s8),c7])),(5,(AV.ptr 100004 0)),(4,(intA a)),(26,(AV.ptr 100004 0)),(27,(AV.sc (.string s8))),(28,(boolA d)),(29,(boolA (!d))),(25,(boolA (!d))),(31,(AV.ptr 100004 1)),(32,c7),(33,(intA e)),(34,(boolA (e==(0)))),(30,(boolA (e==(0)))),(36,(AV.ptr 100004 1)),(37,c7),(38,(intA f)),(39,(boolA (decide (f>(4))))),(35,(boolA (decide (f>(4))))),(40,(AV.ptr 100004 1)),(41,c7),(42,(intA q)),(43,(intA (0)))],((100004,some ⟨[AV.sc (.string s8),c7],293⟩)::(100004,some ⟨[AV.sc (.string ⟨#[]⟩),AV.nils],293⟩)::m),100089⟩ (q110_0_0 R N0))))) else (
opP (lenS c) fun r=>
ex_i64 r fun s=>
Tri pg KK 87 0 (.loop c110_1) ⟨[(0,h),(2,(intA i)),(3,c),(18,g),(19,(intA b)),(20,(intA a)),(21,(boolA (decide (a<b)))),(63,c),(64,(intA s)),(65,(intA (0)))],m,100004⟩ (q110_1 R))
theorem B110_0_eq (a:AV) (b:Int) (c d:AV) (e f:Int) (m:Mem) (R:AV→Mem→Prop) (N0:St→Prop):W pg KK 87 0 c110_0 (h110_0 a b c d e f m) (qq110_0 R N0)=B110_0 a b c d e f m R N0:=by kernel_rfl
theorem L110_0 (R:AV→Mem→Prop) {σ:Type} (I:σ→Prop) (a:σ→AV) (b:σ→Int) (c d:σ→AV) (e f:σ→Int) (m:σ→Mem) (μ:σ→Nat) (step:∀x,I x→B110_0 (a x) (b x) (c x) (d x) (e x) (f x) (m x) R (fun s'=>∃y,I y∧μ y<μ x∧Weak KK 87 0 s' (h110_0 (a y) (b y) (c y) (d y) (e y) (f y) (m y)))) (x:σ) (hx:I x) {s:St} (hw:Weak KK 87 0 s (h110_0 (a x) (b x) (c x) (d x) (e x) (f x) (m x))):Tri pg KK 87 0 (.loop c110_0) s (q110_0 R):=
 Tri.weak hw (Tri.loops fol I (fun x=>h110_0 (a x) (b x) (c x) (d x) (e x) (f x) (m x)) μ (fun x hx=>(B110_0_eq (a x) (b x) (c x) (d x) (e x) (f x) (m x) R _).mpr (step x hx)) x hx)
noncomputable def B110_0_0 (i:AV) (o:Int) (k:AV) (j:Int) (p:AV) (q l:Int) (n:AV) (h c:Int) (b:ByteArray) (a:AV) (m:Mem) (R:AV→Mem→Prop) (N0 N1:St→Prop):Prop:=
bif (decide (c<h)) then (
opP (idxS 3 n (intA c)) fun r=>
opP (ldA (mget ((100004,some ⟨[AV.sc (.string b),a],293⟩)::m)) 3 r) fun v=>
exA3 v fun d w x=>
ex_i64 w fun e=>
ex_i64 x fun f=>
chk (isCell d)<|callQ pg KK.gl ((200003,some ⟨[d,intA e,intA f],297⟩)::(200003,some ⟨[AV.nils,intA (0),intA (0)],297⟩)::(100004,some ⟨[AV.sc (.string b),a],293⟩)::m) 173 [AV.agg [d,intA e,intA f]] fun y=>
ex_i64 y fun g=>
bif (g !=(0)) then (
retL R ((200003,some ⟨[d,intA e,intA f],297⟩)::(200003,some ⟨[AV.nils,intA (0),intA (0)],297⟩)::(100004,some ⟨[AV.sc (.string b),a],293⟩)::m) [some (intA g)]) else (
N1 ⟨[(0,i),(2,(intA o)),(3,k),(4,(intA j)),(5,(AV.ptr 100004 0)),(18,p),(19,(intA q)),(20,(intA l)),(41,n),(42,(intA h)),(43,(intA (IntKind.wrap .i64 (c+(1))))),(44,(boolA (decide (c<h)))),(45,r),(46,(AV.agg [d,intA e,intA f])),(7,(AV.ptr 200003 0)),(47,(AV.agg [d,intA e,intA f])),(48,(intA g)),(8,(intA g)),(49,(intA g)),(50,(boolA (g !=(0)))),(52,(intA (IntKind.wrap .i64 (c+(1)))))],((200003,some ⟨[d,intA e,intA f],297⟩)::(200003,some ⟨[AV.nils,intA (0),intA (0)],297⟩)::(100004,some ⟨[AV.sc (.string b),a],293⟩)::m),200075⟩)) else (
opP (opA pg (.slice 22 (.tmp 0) none (some (.tmp 1)) none) 22 [i,intA j] (mget ((100004,some ⟨[AV.sc (.string b),a],293⟩)::m)) 200003) fun s=>
callQ pg KK.gl ((100004,some ⟨[AV.sc (.string b),a],293⟩)::m) 174 [s,AV.fn 175 [AV.ptr 100004 0]] fun z=>
exB z fun t=>
bif t then (
retL R ((100004,some ⟨[AV.sc (.string b),a],293⟩)::m) [some (intA (7))]) else (
opN (app (mget ((100004,some ⟨[AV.sc (.string b),a],293⟩)::m)) 297 3 40 [AV.nils,intA (0),intA (0)] 200072 k a) ((100004,some ⟨[AV.sc (.string b),a],293⟩)::m) fun u aa=>
N0 ⟨[(0,i),(2,(intA o)),(3,u),(4,(intA j)),(5,(AV.ptr 100004 0)),(18,p),(19,(intA q)),(20,(intA (IntKind.wrap .i64 (l+(1))))),(41,n),(42,(intA h)),(43,(intA c)),(44,(boolA (decide (c<h)))),(53,i),(54,(intA j)),(55,s),(56,(AV.fn 175 [AV.ptr 100004 0])),(57,(boolA t)),(58,k),(59,(AV.ptr 100004 1)),(60,a),(61,u),(62,(intA (IntKind.wrap .i64 (l+(1)))))],aa,200076⟩))
theorem B110_0_0_eq (a:AV) (b:Int) (c:AV) (d:Int) (e:AV) (f g:Int) (h:AV) (i j:Int) (k:ByteArray) (l:AV) (m:Mem) (R:AV→Mem→Prop) (N0 N1:St→Prop):W pg KK 87 0 c110_0_0 (h110_0_0 a b c d e f g h i j k l m) (qq110_0_0 R N0 N1)=B110_0_0 a b c d e f g h i j k l m R N0 N1:=by kernel_rfl
theorem L110_0_0 (R:AV→Mem→Prop) (N0:St→Prop) {σ:Type} (I:σ→Prop) (a:σ→AV) (b:σ→Int) (c:σ→AV) (d:σ→Int) (e:σ→AV) (f g:σ→Int) (h:σ→AV) (i j:σ→Int) (k:σ→ByteArray) (l:σ→AV) (m:σ→Mem) (μ:σ→Nat) (step:∀x,I x→B110_0_0 (a x) (b x) (c x) (d x) (e x) (f x) (g x) (h x) (i x) (j x) (k x) (l x) (m x) R N0 (fun s'=>∃y,I y∧μ y<μ x∧Weak KK 87 0 s' (h110_0_0 (a y) (b y) (c y) (d y) (e y) (f y) (g y) (h y) (i y) (j y) (k y) (l y) (m y)))) (x:σ) (hx:I x) {s:St} (hw:Weak KK 87 0 s (h110_0_0 (a x) (b x) (c x) (d x) (e x) (f x) (g x) (h x) (i x) (j x) (k x) (l x) (m x))):Tri pg KK 87 0 (.loop c110_0_0) s (q110_0_0 R N0):=
 Tri.weak hw (Tri.loops fol I (fun x=>h110_0_0 (a x) (b x) (c x) (d x) (e x) (f x) (g x) (h x) (i x) (j x) (k x) (l x) (m x)) μ (fun x hx=>(B110_0_0_eq (a x) (b x) (c x) (d x) (e x) (f x) (g x) (h x) (i x) (j x) (k x) (l x) (m x) R N0 _).mpr (step x hx)) x hx)
noncomputable def B110_1 (i:Int) (b f:AV) (c a:Int) (m:Mem) (R:AV→Mem→Prop) (N0:St→Prop):Prop:=
bif (decide (a<c)) then (
opP (idxS 3 f (intA a)) fun g=>
opP (ldA (mget m) 3 g) fun j=>
exA3 j fun c34 c35 c36=>
ex_i64 c35 fun d=>
ex_i64 c36 fun e=>
chk (isCell c34)<|opP (opA pg (.slice 291 (.tmp 0) none (some (.tmp 1)) none) 291 [b,intA a] (mget ((200004,some ⟨[c34,intA d,intA e],297⟩)::(200004,some ⟨[AV.nils,intA (0),intA (0)],297⟩)::m)) 200009) fun h=>
opP (lenS h) fun k=>
ex_i64 k fun l=>
Tri pg KK 87 0 (.loop c110_1_0) ⟨[(2,(intA i)),(3,b),(63,f),(64,(intA c)),(65,(intA a)),(66,(boolA (decide (a<c)))),(67,(intA a)),(68,g),(69,(AV.agg [c34,intA d,intA e])),(10,(AV.ptr 200004 0)),(9,(intA a)),(70,b),(71,(intA a)),(72,h),(73,(intA l)),(74,(intA (0)))],((200004,some ⟨[c34,intA d,intA e],297⟩)::(200004,some ⟨[AV.nils,intA (0),intA (0)],297⟩)::m),200012⟩ (q110_1_0 R N0)) else (
retL R m [some (intA (0))])
theorem B110_1_eq (a:Int) (b c:AV) (d e:Int) (m:Mem) (R:AV→Mem→Prop) (N0:St→Prop):W pg KK 87 0 c110_1 (h110_1 a b c d e m) (qq110_1 R N0)=B110_1 a b c d e m R N0:=by kernel_rfl
theorem L110_1 (R:AV→Mem→Prop) {σ:Type} (I:σ→Prop) (a:σ→Int) (b c:σ→AV) (d e:σ→Int) (m:σ→Mem) (μ:σ→Nat) (step:∀x,I x→B110_1 (a x) (b x) (c x) (d x) (e x) (m x) R (fun s'=>∃y,I y∧μ y<μ x∧Weak KK 87 0 s' (h110_1 (a y) (b y) (c y) (d y) (e y) (m y)))) (x:σ) (hx:I x) {s:St} (hw:Weak KK 87 0 s (h110_1 (a x) (b x) (c x) (d x) (e x) (m x))):Tri pg KK 87 0 (.loop c110_1) s (q110_1 R):=
 Tri.weak hw (Tri.loops fol I (fun x=>h110_1 (a x) (b x) (c x) (d x) (e x) (m x)) μ (fun x hx=>(B110_1_eq (a x) (b x) (c x) (d x) (e x) (m x) R _).mpr (step x hx)) x hx)
noncomputable def B110_1_0 (n:Int) (o p:AV) (q k:Int) (l:AV) (i a:Int) (b:AV) (c d:Int) (m:Mem) (R:AV→Mem→Prop) (N0 N1:St→Prop):Prop:=
bif (decide (a<i)) then (
opP (idxS 3 l (intA a)) fun r=>
opP (ldA (mget ((200004,some ⟨[b,intA c,intA d],297⟩)::m)) 3 r) fun s=>
exA3 s fun e t u=>
ex_i64 t fun f=>
ex_i64 u fun g=>
chk (isCell e)<|callQ pg KK.gl ((300003,some ⟨[e,intA f,intA g],297⟩)::(300003,some ⟨[AV.nils,intA (0),intA (0)],297⟩)::(200004,some ⟨[b,intA c,intA d],297⟩)::m) 176 [AV.agg [b,intA c,intA d],AV.agg [e,intA f,intA g]] fun v=>
exT2 v fun w x=>
exB w fun h=>
ex_i64 x fun j=>
bif h then (
retL R ((300003,some ⟨[e,intA f,intA g],297⟩)::(300003,some ⟨[AV.nils,intA (0),intA (0)],297⟩)::(200004,some ⟨[b,intA c,intA d],297⟩)::m) [some (intA (19))]) else (
N1 ⟨[(2,(intA n)),(3,o),(10,(AV.ptr 200004 0)),(63,p),(64,(intA q)),(65,(intA k)),(72,l),(73,(intA i)),(74,(intA (IntKind.wrap .i64 (a+(1))))),(75,(boolA (decide (a<i)))),(76,r),(77,(AV.agg [e,intA f,intA g])),(12,(AV.ptr 300003 0)),(79,(AV.agg [b,intA c,intA d])),(80,(AV.agg [e,intA f,intA g])),(81,(AV.tup [boolA h,intA j])),(78,(AV.tup [boolA h,intA j])),(82,(boolA h)),(83,(intA j)),(13,(boolA h)),(14,(intA j)),(84,(boolA h)),(85,(intA (IntKind.wrap .i64 (a+(1)))))],((300003,some ⟨[e,intA f,intA g],297⟩)::(300003,some ⟨[AV.nils,intA (0),intA (0)],297⟩)::(200004,some ⟨[b,intA c,intA d],297⟩)::m),300079⟩)) else (
N0 ⟨[(2,(intA n)),(3,o),(10,(AV.ptr 200004 0)),(63,p),(64,(intA q)),(65,(intA (IntKind.wrap .i64 (k+(1))))),(72,l),(73,(intA i)),(74,(intA a)),(75,(boolA (decide (a<i)))),(86,(intA (IntKind.wrap .i64 (k+(1)))))],((200004,some ⟨[b,intA c,intA d],297⟩)::m),300003⟩)
theorem B110_1_0_eq (a:Int) (b c:AV) (d e:Int) (f:AV) (g h:Int) (i:AV) (j k:Int) (m:Mem) (R:AV→Mem→Prop) (N0 N1:St→Prop):W pg KK 87 0 c110_1_0 (h110_1_0 a b c d e f g h i j k m) (qq110_1_0 R N0 N1)=B110_1_0 a b c d e f g h i j k m R N0 N1:=by kernel_rfl
theorem L110_1_0 (R:AV→Mem→Prop) (N0:St→Prop) {σ:Type} (I:σ→Prop) (a:σ→Int) (b c:σ→AV) (d e:σ→Int) (f:σ→AV) (g h:σ→Int) (i:σ→AV) (j k:σ→Int) (m:σ→Mem) (μ:σ→Nat) (step:∀x,I x→B110_1_0 (a x) (b x) (c x) (d x) (e x) (f x) (g x) (h x) (i x) (j x) (k x) (m x) R N0 (fun s'=>∃y,I y∧μ y<μ x∧Weak KK 87 0 s' (h110_1_0 (a y) (b y) (c y) (d y) (e y) (f y) (g y) (h y) (i y) (j y) (k y) (m y)))) (x:σ) (hx:I x) {s:St} (hw:Weak KK 87 0 s (h110_1_0 (a x) (b x) (c x) (d x) (e x) (f x) (g x) (h x) (i x) (j x) (k x) (m x))):Tri pg KK 87 0 (.loop c110_1_0) s (q110_1_0 R N0):=
 Tri.weak hw (Tri.loops fol I (fun x=>h110_1_0 (a x) (b x) (c x) (d x) (e x) (f x) (g x) (h x) (i x) (j x) (k x) (m x)) μ (fun x hx=>(B110_1_0_eq (a x) (b x) (c x) (d x) (e x) (f x) (g x) (h x) (i x) (j x) (k x) (m x) R N0 _).mpr (step x hx)) x hx)
noncomputable def F110 (a:AV) (R:AV→Mem→Prop):Prop:=
opP (lenS a) fun c=>
ex_i64 c fun b=>
bif (decide (b>(12))) then (
retL R [] [some (intA (2))]) else (
opP (lenS a) fun d=>
ex_i64 d fun e=>
Tri pg KK 87 0 (.loop c110_0) ⟨[(0,a),(2,(intA (0))),(15,a),(16,(intA b)),(17,(boolA (decide (b>(12))))),(3,AV.nils),(18,a),(19,(intA e)),(20,(intA (0)))],[],8⟩ (q110_0 R))
theorem F110_own (a:AV) (R:AV→Mem→Prop) (h:F110 a R):Own pg KK.gl 110 [a] R:=own_of_F fol Tryz.func110 (code:=c110) krE krE krE (X:=F110 a R) krE h
/- skyway/skywaytop.shownSmall$1 -/
noncomputable def c35:Code:=((Tryz.f35).body).getD .skip
noncomputable def q35 (R:AV→Mem→Prop):AExit→St→Prop:=retQ pg Tryz.f35 R
noncomputable def F35 (a b:AV) (R:AV→Mem→Prop):Prop:=
callQ pg KK.gl [] 36 [a] fun c=>
ex_i64 c fun d=>
bif (d !=(0)) then (
retL R [] [some (boolA true)]) else (
opP (lenS a) fun e=>
ex_i64 e fun f=>
opP (idxS 6 a (intA (IntKind.wrap .i64 (f-(1))))) fun g=>
opP (fldO 0 g) fun h=>
opP (fldO 0 h) fun i=>
opP (ldS (mget []) i) fun j=>
ex_i64 j fun k=>
opP (idxS 6 a (intA (0))) fun l=>
opP (fldO 0 l) fun m=>
opP (fldO 0 m) fun n=>
opP (ldS (mget []) n) fun o=>
ex_i64 o fun p=>
opP (ldS (mget []) b) fun q=>
ex_i64 q fun r=>
retL R [] [some (boolA (decide ((IntKind.wrap .i64 (k-p))>r)))])
theorem F35_own (a b:AV) (R:AV→Mem→Prop) (h:F35 a b R):Own pg KK.gl 35 [a,b] R:=own_of_F fol Tryz.func35 (code:=c35) krE krE krE (X:=F35 a b R) krE h
/- slices.IndexFunc[[]skyway/api.Tube,skyway/api.Tube] -/
noncomputable def c109:Code:=((Tryz.f109).body).getD .skip
noncomputable def q109 (R:AV→Mem→Prop):AExit→St→Prop:=retQ pg Tryz.f109 R
noncomputable def c109_0:Code:=loopB c109 0
noncomputable def q109_0 (R:AV→Mem→Prop):AExit→St→Prop:=contW pg KK 19 0 c109 0 (q109 R)
noncomputable def qq109_0 (R:AV→Mem→Prop) (N0:St→Prop):AExit→St→Prop:=thenQ N0 (q109_0 R)
def h109_0 (a b:AV) (c d e:Int) (m:Mem):St:=⟨[(0,a),(1,b),(4,(intA c)),(7,(intA d)),(8,(intA e))],m,100000⟩
noncomputable def B109_0 (b c:AV) (i d a:Int) (m:Mem) (R:AV→Mem→Prop) (N0:St→Prop):Prop:=
bif (decide (a<d)) then (
opP (idxS 1 b (intA a)) fun f=>
opP (ldS (mget m) f) fun g=>
fnArgs (some c) (some [g]) fun f4 j=>bif KK.pm f4 then callQ pg KK.gl m f4 j (fun h=>
exB h fun e=>
bif e then (
retL R m [some (intA a)]) else (
N0 ⟨[(0,b),(1,c),(4,(intA i)),(7,(intA d)),(8,(intA (IntKind.wrap .i64 (a+(1))))),(9,(boolA (decide (a<d)))),(10,(intA a)),(5,(intA a)),(11,c),(12,b),(13,(intA a)),(14,f),(15,g),(16,(boolA e)),(18,(intA (IntKind.wrap .i64 (a+(1)))))],m,100074⟩)) else callW pg KK.gl m 100008 f4 j fun h k=>
exB h fun e=>
bif e then (
retL R k [some (intA a)]) else (
N0 ⟨[(0,b),(1,c),(4,(intA i)),(7,(intA d)),(8,(intA (IntKind.wrap .i64 (a+(1))))),(9,(boolA (decide (a<d)))),(10,(intA a)),(5,(intA a)),(11,c),(12,b),(13,(intA a)),(14,f),(15,g),(16,(boolA e)),(18,(intA (IntKind.wrap .i64 (a+(1)))))],k,100074⟩)) else (
retL R m [some (intA (-1))])
theorem B109_0_eq (a b:AV) (c d e:Int) (m:Mem) (R:AV→Mem→Prop) (N0:St→Prop):W pg KK 19 0 c109_0 (h109_0 a b c d e m) (qq109_0 R N0)=B109_0 a b c d e m R N0:=by kernel_rfl
theorem L109_0 (R:AV→Mem→Prop) {σ:Type} (I:σ→Prop) (a b:σ→AV) (c d e:σ→Int) (m:σ→Mem) (μ:σ→Nat) (step:∀x,I x→B109_0 (a x) (b x) (c x) (d x) (e x) (m x) R (fun s'=>∃y,I y∧μ y<μ x∧Weak KK 19 0 s' (h109_0 (a y) (b y) (c y) (d y) (e y) (m y)))) (x:σ) (hx:I x) {s:St} (hw:Weak KK 19 0 s (h109_0 (a x) (b x) (c x) (d x) (e x) (m x))):Tri pg KK 19 0 (.loop c109_0) s (q109_0 R):=
 Tri.weak hw (Tri.loops fol I (fun x=>h109_0 (a x) (b x) (c x) (d x) (e x) (m x)) μ (fun x hx=>(B109_0_eq (a x) (b x) (c x) (d x) (e x) (m x) R _).mpr (step x hx)) x hx)
noncomputable def F109 (a b:AV) (R:AV→Mem→Prop):Prop:=
opP (lenS a) fun c=>
ex_i64 c fun d=>
Tri pg KK 19 0 (.loop c109_0) ⟨[(0,a),(1,b),(4,(intA (0))),(6,a),(7,(intA d)),(8,(intA (0)))],[],4⟩ (q109_0 R)
theorem F109_own (a b:AV) (R:AV→Mem→Prop) (h:F109 a b R):Own pg KK.gl 109 [a,b] R:=own_of_F fol Tryz.func109 (code:=c109) krE krE krE (X:=F109 a b R) krE h
/- slices.ContainsFunc[[]skyway/api.Tube,skyway/api.Tube] -/
noncomputable def c34:Code:=((Tryz.f34).body).getD .skip
noncomputable def q34 (R:AV→Mem→Prop):AExit→St→Prop:=retQ pg Tryz.f34 R
noncomputable def F34 (a b:AV) (R:AV→Mem→Prop):Prop:=
callQ pg KK.gl [] 109 [a,b] fun c=>
ex_i64 c fun d=>
retL R [] [some (boolA (decide (d≥(0))))]
theorem F34_own (a b:AV) (R:AV→Mem→Prop) (h:F34 a b R):Own pg KK.gl 34 [a,b] R:=own_of_F fol Tryz.func34 (code:=c34) krE krE krE (X:=F34 a b R) krE h
/- skyway/skywaytop.shownSmall -/
noncomputable def c5:Code:=((Tryz.f5).body).getD .skip
noncomputable def q5 (R:AV→Mem→Prop):AExit→St→Prop:=retQ pg Tryz.f5 R
noncomputable def F5 (b:AV) (c a:Int) (R:AV→Mem→Prop):Prop:=
opP (lenS b) fun d=>
ex_i64 d fun e=>
bif (decide (e≤c)) then (
callQ pg KK.gl ((0,some ⟨[intA a],3⟩)::[]) 34 [b,AV.fn 35 [AV.ptr 0 0]] fun f=>
exB f fun g=>
retL R ((0,some ⟨[intA a],3⟩)::[]) [some (boolA (!g))]) else (
retL R ((0,some ⟨[intA a],3⟩)::[]) [some (boolA false)])
theorem F5_own (a:AV) (b c:Int) (R:AV→Mem→Prop) (h:F5 a b c R):Own pg KK.gl 5 [a,intA b,intA c] R:=own_of_F fol Tryz.func5 (code:=c5) krE krE krE (X:=F5 a b c R) krE h
/- skyway/load.check -/
noncomputable def c37:Code:=((Tryz.f37).body).getD .skip
noncomputable def q37 (R:AV→Mem→Prop):AExit→St→Prop:=retQ pg Tryz.f37 R
noncomputable def c37_0:Code:=loopB c37 0
noncomputable def q37_0 (R:AV→Mem→Prop):AExit→St→Prop:=contW pg KK 29 0 c37 0 (q37 R)
noncomputable def qq37_0 (R:AV→Mem→Prop) (N0:St→Prop):AExit→St→Prop:=thenQ N0 (q37_0 R)
def h37_0 (a:Int) (b:AV) (c d:Int) (m:Mem):St:=⟨[(4,(intA a)),(17,b),(18,(intA c)),(19,(intA d))],m,100000⟩
noncomputable def B37_0 (g:Int) (e:AV) (d b:Int) (m:Mem) (R:AV→Mem→Prop) (N0:St→Prop):Prop:=
bif (decide (b<d)) then (
opP (idxS 1 e (intA b)) fun f=>
opP (ldS (mget m) f) fun c=>
callQ pg KK.gl m 36 [c] fun h=>
ex_i64 h fun a=>
bif (a !=(0)) then (
retL R m [some (intA a)]) else (
N0 ⟨[(4,(intA g)),(17,e),(18,(intA d)),(19,(intA (IntKind.wrap .i64 (b+(1))))),(20,(boolA (decide (b<d)))),(21,f),(22,c),(7,c),(23,c),(24,(intA a)),(8,(intA a)),(25,(intA a)),(26,(boolA (a !=(0)))),(28,(intA (IntKind.wrap .i64 (b+(1)))))],m,100074⟩)) else (
retL R m [some (intA (0))])
theorem B37_0_eq (a:Int) (b:AV) (c d:Int) (m:Mem) (R:AV→Mem→Prop) (N0:St→Prop):W pg KK 29 0 c37_0 (h37_0 a b c d m) (qq37_0 R N0)=B37_0 a b c d m R N0:=by kernel_rfl
theorem L37_0 (R:AV→Mem→Prop) {σ:Type} (I:σ→Prop) (a:σ→Int) (b:σ→AV) (c d:σ→Int) (m:σ→Mem) (μ:σ→Nat) (step:∀x,I x→B37_0 (a x) (b x) (c x) (d x) (m x) R (fun s'=>∃y,I y∧μ y<μ x∧Weak KK 29 0 s' (h37_0 (a y) (b y) (c y) (d y) (m y)))) (x:σ) (hx:I x) {s:St} (hw:Weak KK 29 0 s (h37_0 (a x) (b x) (c x) (d x) (m x))):Tri pg KK 29 0 (.loop c37_0) s (q37_0 R):=
 Tri.weak hw (Tri.loops fol I (fun x=>h37_0 (a x) (b x) (c x) (d x) (m x)) μ (fun x hx=>(B37_0_eq (a x) (b x) (c x) (d x) (m x) R _).mpr (step x hx)) x hx)
noncomputable def F37 (c b:AV) (R:AV→Mem→Prop):Prop:=
callQ pg KK.gl [] 110 [c] fun e=>
ex_i64 e fun a=>
bif (a !=(0)) then (
retL R [] [some (intA a)]) else (
opP (lenS b) fun f=>
ex_i64 f fun d=>
bif (decide (d>(24))) then (
retL R [] [some (intA (2))]) else (
opP (lenS b) fun g=>
ex_i64 g fun h=>
Tri pg KK 29 0 (.loop c37_0) ⟨[(0,c),(1,b),(4,(intA (0))),(9,c),(10,(intA a)),(5,(intA a)),(11,(intA a)),(12,(boolA (a !=(0)))),(14,b),(15,(intA d)),(16,(boolA (decide (d>(24))))),(17,b),(18,(intA h)),(19,(intA (0)))],[],75⟩ (q37_0 R)))
theorem F37_own (a b:AV) (R:AV→Mem→Prop) (h:F37 a b R):Own pg KK.gl 37 [a,b] R:=own_of_F fol Tryz.func37 (code:=c37) krE krE krE (X:=F37 a b R) krE h
/- skyway/load.checkSpan -/
noncomputable def c38:Code:=((Tryz.f38).body).getD .skip
noncomputable def q38 (R:AV→Mem→Prop):AExit→St→Prop:=retQ pg Tryz.f38 R
noncomputable def F38 (a b:Int) (R:AV→Mem→Prop):Prop:=
bif (decide (a<(0))) then (
retL R ((0,some ⟨[intA a,intA b],25⟩)::[]) [some (intA (12))]) else (
bif (decide (b>(200001))) then (
retL R ((0,some ⟨[intA a,intA b],25⟩)::[]) [some (intA (12))]) else (
bif (decide (a≥b)) then (
retL R ((0,some ⟨[intA a,intA b],25⟩)::[]) [some (intA (12))]) else (
bif (decide ((IntKind.wrap .i64 (b-a))>(2000))) then (
retL R ((0,some ⟨[intA a,intA b],25⟩)::[]) [some (intA (2))]) else (
retL R ((0,some ⟨[intA a,intA b],25⟩)::[]) [some (intA (0))]))))
theorem F38_own (a b:Int) (R:AV→Mem→Prop) (h:F38 a b R):Own pg KK.gl 38 [AV.agg [intA a,intA b]] R:=own_of_F fol Tryz.func38 (code:=c38) krE krE krE (X:=F38 a b R) krE h
/- skyway/load.count -/
noncomputable def c40:Code:=((Tryz.f40).body).getD .skip
noncomputable def q40 (R:AV→Mem→Prop):AExit→St→Prop:=retQ pg Tryz.f40 R
noncomputable def c40_0:Code:=loopB c40 0
noncomputable def q40_0 (R:AV→Mem→Prop):AExit→St→Prop:=contW pg KK 53 0 c40 0 (q40 R)
noncomputable def qq40_0 (R:AV→Mem→Prop) (N0:St→Prop):AExit→St→Prop:=thenQ N0 (q40_0 R)
def h40_0 (a:AV) (b:Int) (c:AV) (d:Int) (e:AV) (f:Int) (g:AV) (h i:Int) (m:Mem):St:=⟨[(0,a),(2,(intA b)),(6,c),(7,(intA d)),(8,e),(9,(intA f)),(18,g),(19,(intA h)),(20,(intA i))],m,100000⟩
noncomputable def B40_0 (o:AV) (k:Int) (s:AV) (t:Int) (l:AV) (p:Int) (q:AV) (n i:Int) (m:Mem) (R:AV→Mem→Prop) (N0:St→Prop):Prop:=
bif (decide (i<n)) then (
opP (idxS 1 q (intA i)) fun r=>
opP (ldS (mget m) r) fun j=>
callQ pg KK.gl m 71 [j,intA k] fun x=>
exT2 x fun c8 c9=>
exA6 c8 fun y z aa ab ad ae=>
ex_i64 y fun e=>
ex_i64 z fun b=>
ex_i64 aa fun c=>
ex_i64 ab fun d=>
ex_i64 ad fun f=>
ex_i64 ae fun g=>
ex_i64 c9 fun a=>
bif (a !=(0)) then (
N0 ⟨[(0,o),(2,(intA k)),(6,s),(7,(intA t)),(8,l),(9,(intA p)),(18,q),(19,(intA n)),(20,(intA (IntKind.wrap .i64 (i+(1))))),(21,(boolA (decide (i<n)))),(22,r),(23,j),(11,j),(25,j),(26,(intA k)),(27,(AV.tup [AV.agg [intA e,intA b,intA c,intA d,intA f,intA g],intA a])),(24,(AV.tup [AV.agg [intA e,intA b,intA c,intA d,intA f,intA g],intA a])),(28,(AV.agg [intA e,intA b,intA c,intA d,intA f,intA g])),(29,(intA a)),(12,(AV.ptr 100073 0)),(13,(intA a)),(30,(intA a)),(31,(boolA (a !=(0)))),(50,(intA (IntKind.wrap .i64 (i+(1)))))],((100073,some ⟨[intA e,intA b,intA c,intA d,intA f,intA g],129⟩)::(100073,some ⟨[intA (0),intA (0),intA (0),intA (0),intA (0),intA (0)],129⟩)::m),100080⟩) else (
callQ pg KK.gl ((100073,some ⟨[intA e,intA b,intA c,intA d,intA f,intA g],129⟩)::(100073,some ⟨[intA (0),intA (0),intA (0),intA (0),intA (0),intA (0)],129⟩)::m) 112 [o,AV.agg [intA b,intA c],intA d] fun af=>
ex_i64 af fun h=>
bif (decide (h≥(0))) then (
opP (idxS 1 l (intA h)) fun v=>
opP (ldS (mget ((100073,some ⟨[intA e,intA b,intA c,intA d,intA f,intA g],129⟩)::(100073,some ⟨[intA (0),intA (0),intA (0),intA (0),intA (0),intA (0)],129⟩)::m)) v) fun ag=>
ex_i64 ag fun u=>
opP (idxS 1 l (intA h)) fun w=>
storeW pg (mget ((100073,some ⟨[intA e,intA b,intA c,intA d,intA f,intA g],129⟩)::(100073,some ⟨[intA (0),intA (0),intA (0),intA (0),intA (0),intA (0)],129⟩)::m)) 3 w (intA (IntKind.wrap .i64 (u+(1)))) fun ah d29=>
N0 ⟨[(0,o),(2,(intA k)),(6,s),(7,(intA t)),(8,l),(9,(intA p)),(18,q),(19,(intA n)),(20,(intA (IntKind.wrap .i64 (i+(1))))),(21,(boolA (decide (i<n)))),(22,r),(23,j),(11,j),(25,j),(26,(intA k)),(27,(AV.tup [AV.agg [intA e,intA b,intA c,intA d,intA f,intA g],intA a])),(24,(AV.tup [AV.agg [intA e,intA b,intA c,intA d,intA f,intA g],intA a])),(28,(AV.agg [intA e,intA b,intA c,intA d,intA f,intA g])),(29,(intA a)),(12,(AV.ptr 100073 0)),(13,(intA a)),(30,(intA a)),(31,(boolA (a !=(0)))),(32,o),(33,(AV.ptr 100073 0)),(34,(AV.ptr 100073 1)),(35,(AV.agg [intA b,intA c])),(36,(AV.ptr 100073 0)),(37,(AV.ptr 100073 3)),(38,(intA d)),(39,(intA h)),(14,(intA h)),(40,(intA h)),(41,(boolA (decide (h≥(0))))),(42,l),(43,(intA h)),(44,v),(45,(intA u)),(46,(intA (IntKind.wrap .i64 (u+(1))))),(47,w),(50,(intA (IntKind.wrap .i64 (i+(1)))))],mpushs ((100073,some ⟨[intA e,intA b,intA c,intA d,intA f,intA g],129⟩)::(100073,some ⟨[intA (0),intA (0),intA (0),intA (0),intA (0),intA (0)],129⟩)::m) d29,100161⟩) else (
N0 ⟨[(0,o),(2,(intA k)),(6,s),(7,(intA t)),(8,l),(9,(intA (IntKind.wrap .i64 (p+(1))))),(18,q),(19,(intA n)),(20,(intA (IntKind.wrap .i64 (i+(1))))),(21,(boolA (decide (i<n)))),(22,r),(23,j),(11,j),(25,j),(26,(intA k)),(27,(AV.tup [AV.agg [intA e,intA b,intA c,intA d,intA f,intA g],intA a])),(24,(AV.tup [AV.agg [intA e,intA b,intA c,intA d,intA f,intA g],intA a])),(28,(AV.agg [intA e,intA b,intA c,intA d,intA f,intA g])),(29,(intA a)),(12,(AV.ptr 100073 0)),(13,(intA a)),(30,(intA a)),(31,(boolA (a !=(0)))),(32,o),(33,(AV.ptr 100073 0)),(34,(AV.ptr 100073 1)),(35,(AV.agg [intA b,intA c])),(36,(AV.ptr 100073 0)),(37,(AV.ptr 100073 3)),(38,(intA d)),(39,(intA h)),(14,(intA h)),(40,(intA h)),(41,(boolA (decide (h≥(0))))),(48,(intA p)),(49,(intA (IntKind.wrap .i64 (p+(1))))),(50,(intA (IntKind.wrap .i64 (i+(1)))))],((100073,some ⟨[intA e,intA b,intA c,intA d,intA f,intA g],129⟩)::(100073,some ⟨[intA (0),intA (0),intA (0),intA (0),intA (0),intA (0)],129⟩)::m),100157⟩))) else (
retL R m [some l,some (intA p)])
theorem B40_0_eq (a:AV) (b:Int) (c:AV) (d:Int) (e:AV) (f:Int) (g:AV) (h i:Int) (m:Mem) (R:AV→Mem→Prop) (N0:St→Prop):W pg KK 53 0 c40_0 (h40_0 a b c d e f g h i m) (qq40_0 R N0)=B40_0 a b c d e f g h i m R N0:=by kernel_rfl
theorem L40_0 (R:AV→Mem→Prop) {σ:Type} (I:σ→Prop) (a:σ→AV) (b:σ→Int) (c:σ→AV) (d:σ→Int) (e:σ→AV) (f:σ→Int) (g:σ→AV) (h i:σ→Int) (m:σ→Mem) (μ:σ→Nat) (step:∀x,I x→B40_0 (a x) (b x) (c x) (d x) (e x) (f x) (g x) (h x) (i x) (m x) R (fun s'=>∃y,I y∧μ y<μ x∧Weak KK 53 0 s' (h40_0 (a y) (b y) (c y) (d y) (e y) (f y) (g y) (h y) (i y) (m y)))) (x:σ) (hx:I x) {s:St} (hw:Weak KK 53 0 s (h40_0 (a x) (b x) (c x) (d x) (e x) (f x) (g x) (h x) (i x) (m x))):Tri pg KK 53 0 (.loop c40_0) s (q40_0 R):=
 Tri.weak hw (Tri.loops fol I (fun x=>h40_0 (a x) (b x) (c x) (d x) (e x) (f x) (g x) (h x) (i x) (m x)) μ (fun x hx=>(B40_0_eq (a x) (b x) (c x) (d x) (e x) (f x) (g x) (h x) (i x) (m x) R _).mpr (step x hx)) x hx)
noncomputable def F40 (a b:AV) (e:Int) (R:AV→Mem→Prop):Prop:=
opP (lenS a) fun f=>
ex_i64 f fun c=>
opN (mks 4 3 1 8 [intA (0)] (intA c) (intA c)) [] fun d g=>
opP (lenS b) fun h=>
ex_i64 h fun i=>
Tri pg KK 53 0 (.loop c40_0) ⟨[(0,a),(1,b),(2,(intA e)),(6,AV.nils),(7,(intA (0))),(15,a),(16,(intA c)),(17,d),(8,d),(9,(intA (0))),(18,b),(19,(intA i)),(20,(intA (0)))],g,10⟩ (q40_0 R)
theorem F40_own (a b:AV) (c:Int) (R:AV→Mem→Prop) (h:F40 a b c R):Own pg KK.gl 40 [a,b,intA c] R:=own_of_F fol Tryz.func40 (code:=c40) krE krE krE (X:=F40 a b c R) krE h
/- skyway/load.Peaks -/
noncomputable def c6:Code:=((Tryz.f6).body).getD .skip
noncomputable def q6 (R:AV→Mem→Prop):AExit→St→Prop:=retQ pg Tryz.f6 R
noncomputable def c6_0:Code:=loopB c6 0
noncomputable def q6_0 (R:AV→Mem→Prop):AExit→St→Prop:=contW pg KK 80 0 c6 0 (q6 R)
noncomputable def qq6_0 (R:AV→Mem→Prop) (N0:St→Prop):AExit→St→Prop:=thenQ N0 (q6_0 R)
def h6_0 (a b c d:AV) (e:Int) (f g:AV) (h:Int) (m:Mem):St:=⟨[(0,a),(1,b),(5,(AV.ptr 0 0)),(6,c),(7,d),(8,(intA e)),(11,f),(12,g),(13,(intA h))],m,100000⟩
noncomputable def c6_0_0:Code:=loopB c6_0 0
noncomputable def q6_0_0 (R:AV→Mem→Prop) (N0:St→Prop):AExit→St→Prop:=contW pg KK 80 0 c6_0 0 (qq6_0 R N0)
noncomputable def qq6_0_0 (R:AV→Mem→Prop) (N0 N1:St→Prop):AExit→St→Prop:=thenQ N1 (q6_0_0 R N0)
def h6_0_0 (a b c d:AV) (e:Int) (f g:AV) (h:Int) (i:AV) (j k:Int) (m:Mem):St:=⟨[(0,a),(1,b),(5,(AV.ptr 0 0)),(6,c),(7,d),(8,(intA e)),(11,f),(12,g),(13,(intA h)),(14,i),(53,(intA j)),(54,(intA k))],m,200000⟩
noncomputable def B6_0 (d e i j:AV) (k:Int) (g h:AV) (a:Int) (m:Mem) (R:AV→Mem→Prop) (N0:St→Prop):Prop:=
opP (ldS (mget m) (AV.ptr 0 1)) fun l=>
ex_i64 l fun f=>
bif (decide (a<f)) then (
callW pg KK.gl m 100007 40 [d,e,intA a] fun n o=>
exT2 n fun b p=>
ex_i64 p fun c=>
opP (lenS b) fun q=>
ex_i64 q fun r=>
Tri pg KK 80 0 (.loop c6_0_0) ⟨[(0,d),(1,e),(5,(AV.ptr 0 0)),(6,i),(7,j),(8,(intA k)),(11,g),(12,h),(13,(intA a)),(39,(intA a)),(40,(AV.ptr 0 1)),(41,(intA f)),(42,(boolA (decide (a<f)))),(46,d),(47,e),(48,(intA a)),(49,(AV.tup [b,intA c])),(45,(AV.tup [b,intA c])),(50,b),(51,(intA c)),(14,b),(15,(intA c)),(52,b),(53,(intA r)),(54,(intA (0)))],o,100079⟩ (q6_0_0 R N0)) else (
retL R m [some g,some h,some (intA (0))])
theorem B6_0_eq (a b c d:AV) (e:Int) (f g:AV) (h:Int) (m:Mem) (R:AV→Mem→Prop) (N0:St→Prop):W pg KK 80 0 c6_0 (h6_0 a b c d e f g h m) (qq6_0 R N0)=B6_0 a b c d e f g h m R N0:=by kernel_rfl
theorem L6_0 (R:AV→Mem→Prop) {σ:Type} (I:σ→Prop) (a b c d:σ→AV) (e:σ→Int) (f g:σ→AV) (h:σ→Int) (m:σ→Mem) (μ:σ→Nat) (step:∀x,I x→B6_0 (a x) (b x) (c x) (d x) (e x) (f x) (g x) (h x) (m x) R (fun s'=>∃y,I y∧μ y<μ x∧Weak KK 80 0 s' (h6_0 (a y) (b y) (c y) (d y) (e y) (f y) (g y) (h y) (m y)))) (x:σ) (hx:I x) {s:St} (hw:Weak KK 80 0 s (h6_0 (a x) (b x) (c x) (d x) (e x) (f x) (g x) (h x) (m x))):Tri pg KK 80 0 (.loop c6_0) s (q6_0 R):=
 Tri.weak hw (Tri.loops fol I (fun x=>h6_0 (a x) (b x) (c x) (d x) (e x) (f x) (g x) (h x) (m x)) μ (fun x hx=>(B6_0_eq (a x) (b x) (c x) (d x) (e x) (f x) (g x) (h x) (m x) R _).mpr (step x hx)) x hx)
noncomputable def B6_0_0 (i j k l:AV) (n:Int) (b f:AV) (d:Int) (c:AV) (e a:Int) (m:Mem) (R:AV→Mem→Prop) (N0 N1:St→Prop):Prop:=
bif (decide (a<e)) then (
opP (idxS 1 c (intA a)) fun o=>
opP (ldS (mget m) o) fun u=>
ex_i64 u fun g=>
opP (idxS 1 b (intA a)) fun p=>
opP (ldS (mget m) p) fun v=>
ex_i64 v fun h=>
bif (decide (g>h)) then (
opP (idxS 1 c (intA a)) fun q=>
opP (ldS (mget m) q) fun w=>
ex_i64 w fun r=>
opP (idxS 1 b (intA a)) fun s=>
storeW pg (mget m) 3 s (intA r) fun x d33=>
opP (idxS 1 f (intA a)) fun t=>
storeW pg (mget (mpushs m d33)) 3 t (intA d) fun y d35=>
N1 ⟨[(0,i),(1,j),(5,(AV.ptr 0 0)),(6,k),(7,l),(8,(intA n)),(11,b),(12,f),(13,(intA d)),(14,c),(53,(intA e)),(54,(intA (IntKind.wrap .i64 (a+(1))))),(55,(boolA (decide (a<e)))),(56,(intA a)),(16,(intA a)),(57,c),(58,(intA a)),(59,o),(60,(intA g)),(61,b),(62,(intA a)),(63,p),(64,(intA h)),(65,(boolA (decide (g>h)))),(66,b),(67,(intA a)),(68,f),(69,(intA a)),(70,c),(71,(intA a)),(72,q),(73,(intA r)),(74,(intA d)),(75,s),(76,t),(77,(intA (IntKind.wrap .i64 (a+(1)))))],mpushs (mpushs m d33) d35,200027⟩) else (
N1 ⟨[(0,i),(1,j),(5,(AV.ptr 0 0)),(6,k),(7,l),(8,(intA n)),(11,b),(12,f),(13,(intA d)),(14,c),(53,(intA e)),(54,(intA (IntKind.wrap .i64 (a+(1))))),(55,(boolA (decide (a<e)))),(56,(intA a)),(16,(intA a)),(57,c),(58,(intA a)),(59,o),(60,(intA g)),(61,b),(62,(intA a)),(63,p),(64,(intA h)),(65,(boolA (decide (g>h)))),(77,(intA (IntKind.wrap .i64 (a+(1)))))],m,200014⟩)) else (
N0 ⟨[(0,i),(1,j),(5,(AV.ptr 0 0)),(6,k),(7,l),(8,(intA n)),(11,b),(12,f),(13,(intA (IntKind.wrap .i64 (d+(1))))),(14,c),(53,(intA e)),(54,(intA a)),(55,(boolA (decide (a<e)))),(43,(intA d)),(44,(intA (IntKind.wrap .i64 (d+(1)))))],m,200004⟩)
theorem B6_0_0_eq (a b c d:AV) (e:Int) (f g:AV) (h:Int) (i:AV) (j k:Int) (m:Mem) (R:AV→Mem→Prop) (N0 N1:St→Prop):W pg KK 80 0 c6_0_0 (h6_0_0 a b c d e f g h i j k m) (qq6_0_0 R N0 N1)=B6_0_0 a b c d e f g h i j k m R N0 N1:=by kernel_rfl
theorem L6_0_0 (R:AV→Mem→Prop) (N0:St→Prop) {σ:Type} (I:σ→Prop) (a b c d:σ→AV) (e:σ→Int) (f g:σ→AV) (h:σ→Int) (i:σ→AV) (j k:σ→Int) (m:σ→Mem) (μ:σ→Nat) (step:∀x,I x→B6_0_0 (a x) (b x) (c x) (d x) (e x) (f x) (g x) (h x) (i x) (j x) (k x) (m x) R N0 (fun s'=>∃y,I y∧μ y<μ x∧Weak KK 80 0 s' (h6_0_0 (a y) (b y) (c y) (d y) (e y) (f y) (g y) (h y) (i y) (j y) (k y) (m y)))) (x:σ) (hx:I x) {s:St} (hw:Weak KK 80 0 s (h6_0_0 (a x) (b x) (c x) (d x) (e x) (f x) (g x) (h x) (i x) (j x) (k x) (m x))):Tri pg KK 80 0 (.loop c6_0_0) s (q6_0_0 R N0):=
 Tri.weak hw (Tri.loops fol I (fun x=>h6_0_0 (a x) (b x) (c x) (d x) (e x) (f x) (g x) (h x) (i x) (j x) (k x) (m x)) μ (fun x hx=>(B6_0_0_eq (a x) (b x) (c x) (d x) (e x) (f x) (g x) (h x) (i x) (j x) (k x) (m x) R N0 _).mpr (step x hx)) x hx)
noncomputable def F6 (c f:AV) (a b:Int) (R:AV→Mem→Prop):Prop:=
callQ pg KK.gl ((0,some ⟨[intA a,intA b],25⟩)::[]) 37 [c,f] fun n=>
ex_i64 n fun d=>
bif (d !=(0)) then (
retL R ((0,some ⟨[intA a,intA b],25⟩)::[]) [some AV.nils,some AV.nils,some (intA d)]) else (
callQ pg KK.gl ((0,some ⟨[intA a,intA b],25⟩)::[]) 38 [AV.agg [intA a,intA b]] fun o=>
ex_i64 o fun e=>
bif (e !=(0)) then (
retL R ((0,some ⟨[intA a,intA b],25⟩)::[]) [some AV.nils,some AV.nils,some (intA e)]) else (
opM (lenS c) fun p d4=>
ex_i64 p fun g=>
opM (mks 143 3 1 8 [intA (0)] (intA g) (intA g)) fun h d6=>
opM (ldS (look' (mpushs (mpushs ((0,some ⟨[intA a,intA b],25⟩)::[]) d4) d6) (topId (AV.ptr 0 0)++([]))) (AV.ptr 0 0)) fun q d7=>
ex_i64 q fun i=>
opM (bsl 146 3 1 1 [intA (0)] [(0,(intA i))]) fun j d9=>
opM (lenS c) fun r d10=>
ex_i64 r fun k=>
callF pg KK.gl (mpushs (mpushs (mpushs (mpushs (mpushs ((0,some ⟨[intA a,intA b],25⟩)::[]) d4) d6) d7) d9) d10) 149 39 [j,intA k] fun l d12 ft12=>
chk (confOk [0,1,3,0,8,24,0,64,248,511,1023] [⟨[],[]⟩,⟨d4,topId c++([])⟩,⟨d6,[]⟩,⟨[],[]⟩,⟨d7,topId (AV.ptr 0 0)++([])⟩,⟨d9,[]⟩,⟨[],[]⟩,⟨d10,topId c++([])⟩,⟨d12,ft12⟩,⟨[],[]⟩,⟨[],[]⟩]) (opP (ldS (mget (mpushs (mpushs (mpushs (mpushs (mpushs (mpushs ((0,some ⟨[intA a,intA b],25⟩)::[]) d4) d6) d7) d9) d10) d12)) (AV.ptr 0 0)) fun s=>
ex_i64 s fun m=>
Tri pg KK 80 0 (.loop c6_0) ⟨[(0,c),(1,f),(2,(AV.agg [intA a,intA b])),(5,(AV.ptr 0 0)),(6,AV.nils),(7,AV.nils),(8,(intA (0))),(17,c),(18,f),(19,(intA d)),(9,(intA d)),(20,(intA d)),(21,(boolA (d !=(0)))),(23,(AV.agg [intA a,intA b])),(24,(intA e)),(10,(intA e)),(25,(intA e)),(26,(boolA (e !=(0)))),(28,c),(29,(intA g)),(30,h),(31,(AV.ptr 0 0)),(32,(intA i)),(33,j),(34,c),(35,(intA k)),(36,l),(11,h),(12,l),(37,(AV.ptr 0 0)),(38,(intA m)),(13,(intA m))],mpushs (mpushs (mpushs (mpushs (mpushs (mpushs ((0,some ⟨[intA a,intA b],25⟩)::[]) d4) d6) d7) d9) d10) d12,155⟩ (q6_0 R))))
theorem F6_own (a b:AV) (c d:Int) (R:AV→Mem→Prop) (h:F6 a b c d R):Own pg KK.gl 6 [a,b,AV.agg [intA c,intA d]] R:=own_of_F fol Tryz.func6 (code:=c6) krE krE krE (X:=F6 a b c d R) krE h
/- skyway/skywaytop.shownPick -/
noncomputable def c7:Code:=((Tryz.f7).body).getD .skip
noncomputable def q7 (R:AV→Mem→Prop):AExit→St→Prop:=retQ pg Tryz.f7 R
noncomputable def F7 (a b:Int) (R:AV→Mem→Prop):Prop:=
opP (opA pg (.convert 3 144 (.tmp 0)) 144 [intA a] (mget []) 2) fun c=>
ex_u64 c fun d=>
opP (opA pg (.convert 3 144 (.tmp 0)) 144 [intA b] (mget []) 4) fun e=>
ex_u64 e fun f=>
opP (opA pg (.binOp .rem 144 (.tmp 0) (.tmp 1) 144) 144 [AV.sc (.int .u64 d),AV.sc (.int .u64 f)] (mget []) 5) fun g=>
ex_u64 g fun h=>
opP (opA pg (.convert 144 3 (.tmp 0)) 3 [AV.sc (.int .u64 h)] (mget []) 6) fun i=>
ex_i64 i fun j=>
retL R [] [some (intA j)]
theorem F7_own (a b:Int) (R:AV→Mem→Prop) (h:F7 a b R):Own pg KK.gl 7 [intA a,intA b] R:=own_of_F fol Tryz.func7 (code:=c7) krE krE krE (X:=F7 a b R) krE h
/- skyway/plane.Add -/
noncomputable def c42:Code:=((Tryz.f42).body).getD .skip
noncomputable def q42 (R:AV→Mem→Prop):AExit→St→Prop:=retQ pg Tryz.f42 R
noncomputable def F42 (a b c d:Int) (R:AV→Mem→Prop):Prop:=
opP (bld [intA (0),intA (0)] [(0,1),(1,1)] [(0,(intA (IntKind.wrap .i64 (a+c)))),(1,(intA (IntKind.wrap .i64 (b+d))))]) fun e=>
storeW pg (mget ((2,some ⟨[intA (0),intA (0)],38⟩)::(1,some ⟨[intA c,intA d],38⟩)::(0,some ⟨[intA a,intA b],38⟩)::[])) 38 (AV.ptr 2 0) e fun f d1=>
retL R (mpushs ((2,some ⟨[intA (0),intA (0)],38⟩)::(1,some ⟨[intA c,intA d],38⟩)::(0,some ⟨[intA a,intA b],38⟩)::[]) d1) [(aLoad pg (mget (mpushs ((2,some ⟨[intA (0),intA (0)],38⟩)::(1,some ⟨[intA c,intA d],38⟩)::(0,some ⟨[intA a,intA b],38⟩)::[]) d1)) 38 (AV.ptr 2 0)).map (·.1)]
theorem F42_own (a b c d:Int) (R:AV→Mem→Prop) (h:F42 a b c d R):Own pg KK.gl 42 [AV.agg [intA a,intA b],AV.agg [intA c,intA d]] R:=own_of_F fol Tryz.func42 (code:=c42) krE krE krE (X:=F42 a b c d R) krE h
end Go.Proofs.YtlenkbgeomojnaaGreatDoor
