/- Functions of the program as conditions on their answers; printed by wip/Gen.lean.txt. -/
import Derived.Test.YtlenkbgeomojnaaGreatDoorX1T
set_option linter.unusedVariables false
set_option maxRecDepth 100000
set_option maxHeartbeats 4000000
namespace Go.Proofs.YtlenkbgeomojnaaGreatDoor
/- skyway/tube.Shift -/
noncomputable def c8:Code:=((Tryz.f8).body).getD .skip
noncomputable def q8 (R:AV→Mem→Prop):AExit→St→Prop:=retQ pg Tryz.f8 R
noncomputable def c8_0:Code:=loopB c8 0
noncomputable def q8_0 (R:AV→Mem→Prop):AExit→St→Prop:=contW pg KK 81 0 c8 0 (q8 R)
noncomputable def qq8_0 (R:AV→Mem→Prop) (N0:St→Prop):AExit→St→Prop:=thenQ N0 (q8_0 R)
def h8_0 (a:Int) (b:AV) (c:Int) (d:AV) (e f:Int) (m:Mem):St:=⟨[(2,(intA a)),(4,(AV.ptr 0 0)),(6,b),(7,(intA c)),(9,d),(46,(intA e)),(47,(intA f))],m,100000⟩
noncomputable def B8_0 (c:Int) (z:AV) (t7:Int) (b:AV) (h a:Int) (m:Mem) (R:AV→Mem→Prop) (N0:St→Prop):Prop:=
bif (decide (a<h)) then (
opM (idxS 6 b (intA a)) fun j d5=>
opM (fldO 0 j) fun k d6=>
opM (fldO 1 k) fun d d7=>
opM (ldA (look' (mpushs (mpushs (mpushs m d5) d6) d7) (topId d++([]))) 2 d) fun v8 d8=>
exA2 v8 fun c9 aa=>
ex_i64 c9 fun l=>
ex_i64 aa fun n=>
opM (ldA (look' (mpushs (mpushs (mpushs (mpushs m d5) d6) d7) d8) (topId (AV.ptr 0 0)++([]))) 2 (AV.ptr 0 0)) fun ab d13=>
exA2 ab fun ad ae=>
ex_i64 ad fun o=>
ex_i64 ae fun p=>
callF pg KK.gl (mpushs (mpushs (mpushs (mpushs (mpushs m d5) d6) d7) d8) d13) 100012 42 [AV.agg [intA l,intA n],AV.agg [intA o,intA p]] fun af d18 ft18=>
exA2 af fun ag ah=>
ex_i64 ag fun e=>
ex_i64 ah fun f=>
opM (idxS 6 b (intA a)) fun q d23=>
opM (fldO 0 q) fun r d24=>
opM (fldO 1 r) fun g d25=>
storeW pg (look' (mpushs (mpushs (mpushs (mpushs (mpushs (mpushs (mpushs (mpushs (mpushs m d5) d6) d7) d8) d13) d18) d23) d24) d25) (topId g++(topId (AV.agg [intA e,intA f])++([])))) 38 g (AV.agg [intA e,intA f]) fun ak d26=>
chk (confOk [0,0,0,0,12,28,60,124,0,508,1023,2047,4095,8191] [⟨[],[]⟩,⟨[],[]⟩,⟨[],[]⟩,⟨[],[]⟩,⟨d5,[]⟩,⟨d6,[]⟩,⟨d7,[]⟩,⟨d8,topId d++([])⟩,⟨d13,topId (AV.ptr 0 0)++([])⟩,⟨d18,ft18⟩,⟨d23,[]⟩,⟨d24,[]⟩,⟨d25,[]⟩,⟨d26,topId g++(topId (AV.agg [intA e,intA f])++([]))⟩]) (opP (idxS 6 b (intA a)) fun s=>
opP (fldO 0 s) fun t=>
opP (fldO 0 t) fun u=>
opP (ldS (mget (mpushs (mpushs (mpushs (mpushs (mpushs (mpushs (mpushs (mpushs (mpushs (mpushs m d5) d6) d7) d8) d13) d18) d23) d24) d25) d26)) u) fun ai=>
ex_i64 ai fun i=>
opP (idxS 6 b (intA a)) fun v=>
opP (fldO 0 v) fun w=>
opP (fldO 0 w) fun x=>
storeW pg (mget (mpushs (mpushs (mpushs (mpushs (mpushs (mpushs (mpushs (mpushs (mpushs (mpushs m d5) d6) d7) d8) d13) d18) d23) d24) d25) d26)) 3 x (intA (IntKind.wrap .i64 (i+c))) fun al d35=>
N0 ⟨[(2,(intA c)),(4,(AV.ptr 0 0)),(6,z),(7,(intA t7)),(9,b),(46,(intA h)),(47,(intA (IntKind.wrap .i64 (a+(1))))),(48,(boolA (decide (a<h)))),(49,(intA a)),(10,(intA a)),(50,b),(51,(intA a)),(52,b),(53,(intA a)),(54,j),(55,k),(56,d),(57,(AV.agg [intA l,intA n])),(58,(AV.agg [intA o,intA p])),(59,(AV.agg [intA e,intA f])),(60,q),(61,r),(62,g),(63,b),(64,(intA a)),(65,s),(66,t),(67,u),(68,(intA i)),(69,(intA c)),(70,(intA (IntKind.wrap .i64 (i+c)))),(71,v),(72,w),(73,x),(74,(intA (IntKind.wrap .i64 (a+(1)))))],mpushs (mpushs (mpushs (mpushs (mpushs (mpushs (mpushs (mpushs (mpushs (mpushs (mpushs m d5) d6) d7) d8) d13) d18) d23) d24) d25) d26) d35,100031⟩)) else (
callQ pg KK.gl m 36 [b] fun aj=>
ex_i64 aj fun y=>
bif (y !=(0)) then (
retL R m [some AV.nils,some (intA y)]) else (
retL R m [some b,some (intA (0))]))
theorem B8_0_eq (a:Int) (b:AV) (c:Int) (d:AV) (e f:Int) (m:Mem) (R:AV→Mem→Prop) (N0:St→Prop):W pg KK 81 0 c8_0 (h8_0 a b c d e f m) (qq8_0 R N0)=B8_0 a b c d e f m R N0:=by kernel_rfl
theorem L8_0 (R:AV→Mem→Prop) {σ:Type} (I:σ→Prop) (a:σ→Int) (b:σ→AV) (c:σ→Int) (d:σ→AV) (e f:σ→Int) (m:σ→Mem) (μ:σ→Nat) (step:∀x,I x→B8_0 (a x) (b x) (c x) (d x) (e x) (f x) (m x) R (fun s'=>∃y,I y∧μ y<μ x∧Weak KK 81 0 s' (h8_0 (a y) (b y) (c y) (d y) (e y) (f y) (m y)))) (x:σ) (hx:I x) {s:St} (hw:Weak KK 81 0 s (h8_0 (a x) (b x) (c x) (d x) (e x) (f x) (m x))):Tri pg KK 81 0 (.loop c8_0) s (q8_0 R):=
 Tri.weak hw (Tri.loops fol I (fun x=>h8_0 (a x) (b x) (c x) (d x) (e x) (f x) (m x)) μ (fun x hx=>(B8_0_eq (a x) (b x) (c x) (d x) (e x) (f x) (m x) R _).mpr (step x hx)) x hx)
noncomputable def F8 (e:AV) (b a c:Int) (R:AV→Mem→Prop):Prop:=
callQ pg KK.gl ((0,some ⟨[intA b,intA a],38⟩)::[]) 36 [e] fun g=>
ex_i64 g fun d=>
bif (d !=(0)) then (
retL R ((0,some ⟨[intA b,intA a],38⟩)::[]) [some AV.nils,some (intA d)]) else (
bif (decide (b<(-2000000))) then (
retL R ((0,some ⟨[intA b,intA a],38⟩)::[]) [some AV.nils,some (intA (4))]) else (
bif (decide (b>(2000000))) then (
retL R ((0,some ⟨[intA b,intA a],38⟩)::[]) [some AV.nils,some (intA (4))]) else (
bif (decide (a<(-2000000))) then (
retL R ((0,some ⟨[intA b,intA a],38⟩)::[]) [some AV.nils,some (intA (4))]) else (
bif (decide (a>(2000000))) then (
retL R ((0,some ⟨[intA b,intA a],38⟩)::[]) [some AV.nils,some (intA (4))]) else (
bif (decide (c<(-200000))) then (
retL R ((0,some ⟨[intA b,intA a],38⟩)::[]) [some AV.nils,some (intA (4))]) else (
bif (decide (c>(200000))) then (
retL R ((0,some ⟨[intA b,intA a],38⟩)::[]) [some AV.nils,some (intA (4))]) else (
callW pg KK.gl ((0,some ⟨[intA b,intA a],38⟩)::[]) 98 41 [e] fun f h=>
opP (lenS f) fun i=>
ex_i64 i fun j=>
Tri pg KK 81 0 (.loop c8_0) ⟨[(0,e),(1,(AV.agg [intA b,intA a])),(2,(intA c)),(4,(AV.ptr 0 0)),(6,AV.nils),(7,(intA (0))),(12,e),(13,(intA d)),(8,(intA d)),(14,(intA d)),(15,(boolA (d !=(0)))),(17,(AV.ptr 0 0)),(18,(intA b)),(19,(boolA (decide (b<(-2000000))))),(20,(boolA false)),(21,(AV.ptr 0 0)),(22,(intA b)),(23,(boolA (decide (b>(2000000))))),(24,(boolA (decide (b>(2000000))))),(25,(boolA false)),(26,(AV.ptr 0 1)),(27,(intA a)),(28,(boolA (decide (a<(-2000000))))),(29,(boolA (decide (a<(-2000000))))),(30,(boolA false)),(31,(AV.ptr 0 1)),(32,(intA a)),(33,(boolA (decide (a>(2000000))))),(34,(boolA (decide (a>(2000000))))),(35,(boolA false)),(36,(intA c)),(37,(boolA (decide (c<(-200000))))),(38,(boolA (decide (c<(-200000))))),(39,(boolA false)),(40,(intA c)),(41,(boolA (decide (c>(200000))))),(42,(boolA (decide (c>(200000))))),(43,e),(44,f),(9,f),(45,f),(46,(intA j)),(47,(intA (0)))],h,166⟩ (q8_0 R))))))))
theorem F8_own (a:AV) (b c d:Int) (R:AV→Mem→Prop) (h:F8 a b c d R):Own pg KK.gl 8 [a,AV.agg [intA b,intA c],intA d] R:=own_of_F fol Tryz.func8 (code:=c8) krE krE krE (X:=F8 a b c d R) krE h
/- slices.Equal[[]int,int] -/
noncomputable def c9:Code:=((Tryz.f9).body).getD .skip
noncomputable def q9 (R:AV→Mem→Prop):AExit→St→Prop:=retQ pg Tryz.f9 R
noncomputable def c9_0:Code:=loopB c9 0
noncomputable def q9_0 (R:AV→Mem→Prop):AExit→St→Prop:=contW pg KK 26 0 c9 0 (q9 R)
noncomputable def qq9_0 (R:AV→Mem→Prop) (N0:St→Prop):AExit→St→Prop:=thenQ N0 (q9_0 R)
def h9_0 (a b:AV) (c:Bool) (d e:Int) (m:Mem):St:=⟨[(0,a),(1,b),(4,(boolA c)),(12,(intA d)),(13,(intA e))],m,100000⟩
noncomputable def B9_0 (b c:AV) (i:Bool) (d a:Int) (m:Mem) (R:AV→Mem→Prop) (N0:St→Prop):Prop:=
bif (decide (a<d)) then (
opP (idxS 1 b (intA a)) fun g=>
opP (ldS (mget m) g) fun j=>
ex_i64 j fun e=>
opP (idxS 1 c (intA a)) fun h=>
opP (ldS (mget m) h) fun k=>
ex_i64 k fun f=>
bif (e !=f) then (
retL R m [some (boolA false)]) else (
N0 ⟨[(0,b),(1,c),(4,(boolA i)),(12,(intA d)),(13,(intA (IntKind.wrap .i64 (a+(1))))),(14,(boolA (decide (a<d)))),(15,(intA a)),(5,(intA a)),(16,b),(17,(intA a)),(18,g),(19,(intA e)),(20,c),(21,(intA a)),(22,h),(23,(intA f)),(24,(boolA (e !=f))),(25,(intA (IntKind.wrap .i64 (a+(1)))))],m,100014⟩)) else (
retL R m [some (boolA true)])
theorem B9_0_eq (a b:AV) (c:Bool) (d e:Int) (m:Mem) (R:AV→Mem→Prop) (N0:St→Prop):W pg KK 26 0 c9_0 (h9_0 a b c d e m) (qq9_0 R N0)=B9_0 a b c d e m R N0:=by kernel_rfl
theorem L9_0 (R:AV→Mem→Prop) {σ:Type} (I:σ→Prop) (a b:σ→AV) (c:σ→Bool) (d e:σ→Int) (m:σ→Mem) (μ:σ→Nat) (step:∀x,I x→B9_0 (a x) (b x) (c x) (d x) (e x) (m x) R (fun s'=>∃y,I y∧μ y<μ x∧Weak KK 26 0 s' (h9_0 (a y) (b y) (c y) (d y) (e y) (m y)))) (x:σ) (hx:I x) {s:St} (hw:Weak KK 26 0 s (h9_0 (a x) (b x) (c x) (d x) (e x) (m x))):Tri pg KK 26 0 (.loop c9_0) s (q9_0 R):=
 Tri.weak hw (Tri.loops fol I (fun x=>h9_0 (a x) (b x) (c x) (d x) (e x) (m x)) μ (fun x hx=>(B9_0_eq (a x) (b x) (c x) (d x) (e x) (m x) R _).mpr (step x hx)) x hx)
noncomputable def F9 (a b:AV) (R:AV→Mem→Prop):Prop:=
opP (lenS a) fun e=>
ex_i64 e fun c=>
opP (lenS b) fun f=>
ex_i64 f fun d=>
bif (c !=d) then (
retL R [] [some (boolA false)]) else (
opP (lenS a) fun g=>
ex_i64 g fun h=>
Tri pg KK 26 0 (.loop c9_0) ⟨[(0,a),(1,b),(4,(boolA false)),(6,a),(7,(intA c)),(8,b),(9,(intA d)),(10,(boolA (c !=d))),(11,a),(12,(intA h)),(13,(intA (0)))],[],9⟩ (q9_0 R))
theorem F9_own (a b:AV) (R:AV→Mem→Prop) (h:F9 a b R):Own pg KK.gl 9 [a,b] R:=own_of_F fol Tryz.func9 (code:=c9) krE krE krE (X:=F9 a b R) krE h
/- skyway/skywaytop.TopLoad -/
noncomputable def c3:Code:=((Tryz.f3).body).getD .skip
noncomputable def q3 (R:AV→Mem→Prop):AExit→St→Prop:=retQ pg Tryz.f3 R
noncomputable def c3_0:Code:=loopB c3 0
noncomputable def q3_0 (R:AV→Mem→Prop):AExit→St→Prop:=contW pg KK 118 0 c3 0 (q3 R)
noncomputable def qq3_0 (R:AV→Mem→Prop) (N0:St→Prop):AExit→St→Prop:=thenQ N0 (q3_0 R)
def h3_0 (a:AV) (b:Int) (c:Bool) (d e:AV) (f:Int) (g h:AV) (i j:Int) (m:Mem):St:=⟨[(0,a),(3,(intA b)),(6,(AV.ptr 0 0)),(8,(boolA c)),(9,d),(10,e),(11,(intA f)),(12,g),(45,h),(46,(intA i)),(47,(intA j))],m,100000⟩
noncomputable def c3_1:Code:=loopB c3 1
noncomputable def q3_1 (R:AV→Mem→Prop):AExit→St→Prop:=contW pg KK 118 0 c3 1 (q3 R)
noncomputable def qq3_1 (R:AV→Mem→Prop) (N0:St→Prop):AExit→St→Prop:=thenQ N0 (q3_1 R)
def h3_1 (a:Int) (b:Bool) (c d:AV) (e f:Int) (m:Mem):St:=⟨[(3,(intA a)),(8,(boolA b)),(10,c),(18,d),(102,(intA e)),(103,(intA f))],m,200000⟩
noncomputable def B3_0 (l:AV) (a:Int) (w:Bool) (n f:AV) (ae:Int) (j t:AV) (k b:Int) (m:Mem) (R:AV→Mem→Prop) (N0:St→Prop):Prop:=
bif (decide (b<k)) then (
opP (idxS 1 t (intA b)) fun x=>
opP (ldS (mget m) x) fun o=>
opP (bld [intA (0),intA (0)] [(0,1),(1,1)] []) fun y=>
callQ pg KK.gl m 8 [o,y,intA a] fun af=>
exT2 af fun g ag=>
ex_i64 ag fun c=>
bif (c !=(0)) then (
retL R m [some (boolA true)]) else (
opN (bsl 100080 34 1 1 [AV.nils] [(0,g)]) m fun z aa=>
opN (app (mget aa) 34 1 24 [AV.nils] 100081 j z) aa fun ab ah=>
N0 ⟨[(0,l),(3,(intA a)),(6,(AV.ptr 0 0)),(8,(boolA w)),(9,n),(10,f),(11,(intA ae)),(12,ab),(45,t),(46,(intA k)),(47,(intA (IntKind.wrap .i64 (b+(1))))),(48,(boolA (decide (b<k)))),(49,x),(50,o),(14,o),(52,o),(53,y),(54,(intA a)),(55,(AV.tup [g,intA c])),(51,(AV.tup [g,intA c])),(56,g),(57,(intA c)),(15,g),(16,(intA c)),(58,(intA c)),(59,(boolA (c !=(0)))),(60,j),(61,g),(62,z),(63,ab),(64,(intA (IntKind.wrap .i64 (b+(1)))))],ah,100085⟩)) else (
opP (ldS (mget m) (AV.ptr 0 0)) fun ai=>
ex_i64 ai fun u=>
opP (ldS (mget m) (AV.ptr 0 1)) fun aj=>
ex_i64 aj fun v=>
opP (bld [intA (0),intA (0)] [(0,1),(1,1)] [(0,(intA (IntKind.wrap .i64 (u+a)))),(1,(intA (IntKind.wrap .i64 (v+a))))]) fun ad=>
callW pg KK.gl m 100012 6 [l,j,ad] fun ak d=>
exT3 ak fun h i c34=>
ex_i64 c34 fun e=>
opP (ldS (mget d) (AV.ptr 0 1)) fun al=>
ex_i64 al fun p=>
bif (decide ((IntKind.wrap .i64 (p+a))>(200000))) then (
retL R d [some (boolA true)]) else (
bif (e !=(0)) then (
retL R d [some (boolA false)]) else (
callQ pg KK.gl d 9 [n,h] fun am=>
exB am fun q=>
bif (!q) then (
retL R d [some (boolA false)]) else (
opP (lenS f) fun an=>
ex_i64 an fun r=>
opP (lenS i) fun ao=>
ex_i64 ao fun s=>
bif (r !=s) then (
retL R d [some (boolA false)]) else (
opP (lenS f) fun ap=>
ex_i64 ap fun aq=>
Tri pg KK 118 0 (.loop c3_1) ⟨[(0,l),(3,(intA a)),(6,(AV.ptr 0 0)),(8,(boolA w)),(9,n),(10,f),(11,(intA e)),(12,j),(45,t),(46,(intA k)),(47,(intA b)),(48,(boolA (decide (b<k)))),(66,l),(67,j),(68,(AV.ptr 0 0)),(69,(intA u)),(70,(intA a)),(71,(intA (IntKind.wrap .i64 (u+a)))),(72,(AV.ptr 0 1)),(73,(intA v)),(74,(intA a)),(75,(intA (IntKind.wrap .i64 (v+a)))),(76,ad),(77,(AV.tup [h,i,intA e])),(65,(AV.tup [h,i,intA e])),(78,h),(79,i),(80,(intA e)),(17,h),(18,i),(81,(AV.ptr 0 1)),(82,(intA p)),(83,(intA a)),(84,(intA (IntKind.wrap .i64 (p+a)))),(85,(boolA (decide ((IntKind.wrap .i64 (p+a))>(200000))))),(86,(intA e)),(87,(boolA (e !=(0)))),(88,(boolA false)),(89,n),(90,h),(91,(boolA q)),(92,(boolA (!q))),(93,(boolA (!q))),(94,(boolA false)),(95,f),(96,(intA r)),(97,i),(98,(intA s)),(99,(boolA (r !=s))),(100,(boolA (r !=s))),(101,f),(102,(intA aq)),(103,(intA (0)))],d,100169⟩ (q3_1 R))))))
theorem B3_0_eq (a:AV) (b:Int) (c:Bool) (d e:AV) (f:Int) (g h:AV) (i j:Int) (m:Mem) (R:AV→Mem→Prop) (N0:St→Prop):W pg KK 118 0 c3_0 (h3_0 a b c d e f g h i j m) (qq3_0 R N0)=B3_0 a b c d e f g h i j m R N0:=by kernel_rfl
theorem L3_0 (R:AV→Mem→Prop) {σ:Type} (I:σ→Prop) (a:σ→AV) (b:σ→Int) (c:σ→Bool) (d e:σ→AV) (f:σ→Int) (g h:σ→AV) (i j:σ→Int) (m:σ→Mem) (μ:σ→Nat) (step:∀x,I x→B3_0 (a x) (b x) (c x) (d x) (e x) (f x) (g x) (h x) (i x) (j x) (m x) R (fun s'=>∃y,I y∧μ y<μ x∧Weak KK 118 0 s' (h3_0 (a y) (b y) (c y) (d y) (e y) (f y) (g y) (h y) (i y) (j y) (m y)))) (x:σ) (hx:I x) {s:St} (hw:Weak KK 118 0 s (h3_0 (a x) (b x) (c x) (d x) (e x) (f x) (g x) (h x) (i x) (j x) (m x))):Tri pg KK 118 0 (.loop c3_0) s (q3_0 R):=
 Tri.weak hw (Tri.loops fol I (fun x=>h3_0 (a x) (b x) (c x) (d x) (e x) (f x) (g x) (h x) (i x) (j x) (m x)) μ (fun x hx=>(B3_0_eq (a x) (b x) (c x) (d x) (e x) (f x) (g x) (h x) (i x) (j x) (m x) R _).mpr (step x hx)) x hx)
noncomputable def B3_1 (b:Int) (j:Bool) (d e:AV) (f a:Int) (m:Mem) (R:AV→Mem→Prop) (N0:St→Prop):Prop:=
bif (decide (a<f)) then (
opP (idxS 1 e (intA a)) fun h=>
opP (ldS (mget m) h) fun k=>
ex_i64 k fun g=>
opP (idxS 1 d (intA a)) fun i=>
opP (ldS (mget m) i) fun l=>
ex_i64 l fun c=>
bif (g !=(IntKind.wrap .i64 (c+b))) then (
retL R m [some (boolA false)]) else (
N0 ⟨[(3,(intA b)),(8,(boolA j)),(10,d),(18,e),(102,(intA f)),(103,(intA (IntKind.wrap .i64 (a+(1))))),(104,(boolA (decide (a<f)))),(105,(intA a)),(19,(intA a)),(106,e),(107,(intA a)),(108,h),(109,(intA g)),(110,d),(111,(intA a)),(112,i),(113,(intA c)),(114,(intA b)),(115,(intA (IntKind.wrap .i64 (c+b)))),(116,(boolA (g !=(IntKind.wrap .i64 (c+b))))),(117,(intA (IntKind.wrap .i64 (a+(1)))))],m,200016⟩)) else (
retL R m [some (boolA true)])
theorem B3_1_eq (a:Int) (b:Bool) (c d:AV) (e f:Int) (m:Mem) (R:AV→Mem→Prop) (N0:St→Prop):W pg KK 118 0 c3_1 (h3_1 a b c d e f m) (qq3_1 R N0)=B3_1 a b c d e f m R N0:=by kernel_rfl
theorem L3_1 (R:AV→Mem→Prop) {σ:Type} (I:σ→Prop) (a:σ→Int) (b:σ→Bool) (c d:σ→AV) (e f:σ→Int) (m:σ→Mem) (μ:σ→Nat) (step:∀x,I x→B3_1 (a x) (b x) (c x) (d x) (e x) (f x) (m x) R (fun s'=>∃y,I y∧μ y<μ x∧Weak KK 118 0 s' (h3_1 (a y) (b y) (c y) (d y) (e y) (f y) (m y)))) (x:σ) (hx:I x) {s:St} (hw:Weak KK 118 0 s (h3_1 (a x) (b x) (c x) (d x) (e x) (f x) (m x))):Tri pg KK 118 0 (.loop c3_1) s (q3_1 R):=
 Tri.weak hw (Tri.loops fol I (fun x=>h3_1 (a x) (b x) (c x) (d x) (e x) (f x) (m x)) μ (fun x hx=>(B3_1_eq (a x) (b x) (c x) (d x) (e x) (f x) (m x) R _).mpr (step x hx)) x hx)
noncomputable def F3 (h c:AV) (a b k:Int) (R:AV→Mem→Prop):Prop:=
callQ pg KK.gl ((0,some ⟨[intA a,intA b],25⟩)::[]) 4 [] fun m=>
exB m fun i=>
bif (!i) then (
retL R ((0,some ⟨[intA a,intA b],25⟩)::[]) [some (boolA false)]) else (
callQ pg KK.gl ((0,some ⟨[intA a,intA b],25⟩)::[]) 5 [c,intA (5),intA (300)] fun n=>
exB n fun j=>
bif (!j) then (
retL R ((0,some ⟨[intA a,intA b],25⟩)::[]) [some (boolA true)]) else (
callW pg KK.gl ((0,some ⟨[intA a,intA b],25⟩)::[]) 136 6 [h,c,AV.agg [intA a,intA b]] fun o e=>
exT3 o fun c5 c6 c7=>
ex_i64 c7 fun d=>
bif (d !=(0)) then (
retL R e [some (boolA true)]) else (
opP (ldS (mget e) (AV.ptr 0 1)) fun p=>
ex_i64 p fun f=>
opP (ldS (mget e) (AV.ptr 0 0)) fun q=>
ex_i64 q fun g=>
bif (decide ((IntKind.wrap .i64 (f-g))>(300))) then (
retL R e [some (boolA true)]) else (
callQ pg KK.gl e 7 [intA k,intA (200)] fun r=>
ex_i64 r fun l=>
opP (lenS c) fun s=>
ex_i64 s fun t=>
Tri pg KK 118 0 (.loop c3_0) ⟨[(0,h),(1,c),(2,(AV.agg [intA a,intA b])),(3,(intA l)),(6,(AV.ptr 0 0)),(8,(boolA false)),(20,(boolA i)),(21,(boolA (!i))),(22,c),(23,(boolA j)),(24,(boolA (!j))),(26,h),(27,c),(28,(AV.agg [intA a,intA b])),(29,(AV.tup [c5,c6,intA d])),(25,(AV.tup [c5,c6,intA d])),(30,c5),(31,c6),(32,(intA d)),(9,c5),(10,c6),(11,(intA d)),(33,(intA d)),(34,(boolA (d !=(0)))),(35,(boolA false)),(36,(AV.ptr 0 1)),(37,(intA f)),(38,(AV.ptr 0 0)),(39,(intA g)),(40,(intA (IntKind.wrap .i64 (f-g)))),(41,(boolA (decide ((IntKind.wrap .i64 (f-g))>(300))))),(42,(boolA (decide ((IntKind.wrap .i64 (f-g))>(300))))),(43,(intA k)),(44,(intA l)),(12,AV.nils),(45,c),(46,(intA t)),(47,(intA (0)))],e,287⟩ (q3_0 R)))))
theorem F3_own (a b:AV) (c d e:Int) (R:AV→Mem→Prop) (h:F3 a b c d e R):Own pg KK.gl 3 [a,b,AV.agg [intA c,intA d],intA e] R:=own_of_F fol Tryz.func3 (code:=c3) krE krE krE (X:=F3 a b c d e R) krE h
/- slices.Clone[skyway/api.Tube,skyway/api.TubeNode] -/
noncomputable def c41:Code:=((Tryz.f41).body).getD .skip
noncomputable def q41 (R:AV→Mem→Prop):AExit→St→Prop:=retQ pg Tryz.f41 R
noncomputable def F41 (a:AV) (R:AV→Mem→Prop):Prop:=
nilK a fun c=>
bif c then (
retL R [] [some AV.nils]) else (
opN (bsl 3 129 6 0 [intA (0),intA (0),intA (0),intA (0),intA (0),intA (0)] []) [] fun d b=>
opN (app (mget b) 129 6 48 [intA (0),intA (0),intA (0),intA (0),intA (0),intA (0)] 5 d a) b fun e f=>
retL R f [some e])
theorem F41_own (a:AV) (R:AV→Mem→Prop) (h:F41 a R):Own pg KK.gl 41 [a] R:=own_of_F fol Tryz.func41 (code:=c41) krE krE krE (X:=F41 a R) krE h
/- slices.Insert[skyway/api.Tube,skyway/api.TubeNode] at 1 -/
noncomputable def F212n1 (d:AV) (a:Int) (e:AV) (m:Mem) (R:AV→Mem→Prop):Prop:=
opP (opA pg (.slice 34 (.tmp 0) (some (.tmp 1)) none none) 34 [d,intA a] (mget m) 4) fun v0=>
opP (lenS e) fun p=>
ex_i64 p fun b=>
bif (b==(0)) then (
retL R m [some d]) else (
opP (lenS d) fun q=>
ex_i64 q fun f=>
bif (a==f) then (
opN (app (mget m) 129 6 48 [intA (0),intA (0),intA (0),intA (0),intA (0),intA (0)] 18 d e) m fun r s=>
retL R s [some r]) else (
opP (opA pg (.call ⟨.builtin .cap,#[.tmp 0],#[34]⟩) 3 [d] (mget m) 20) fun t=>
ex_i64 t fun u=>
bif (decide ((IntKind.wrap .i64 (f+b))>u)) then (
opP (opA pg (.slice 34 (.tmp 0) none (some (.tmp 1)) none) 34 [d,intA a] (mget m) 24) fun v=>
opN (opA pg (.call ⟨.builtin .append,#[.tmp 0,.tmp 1],#[34,3]⟩) 34 [v,intA (IntKind.wrap .i64 ((IntKind.wrap .i64 (f+b))-a))] (mget m) 30) m fun g i=>
opP (opA pg (.slice 34 (.tmp 0) (some (.tmp 1)) none none) 34 [g,intA a] (mget i) 34) fun w=>
opN (opA pg (.call ⟨.builtin .copy,#[.tmp 0,.tmp 1],#[34,33]⟩) 3 [w,e] (mget i) 36) i fun x h=>
ex_i64 x fun am=>
opM (opA pg (.slice 34 (.tmp 0) (some (.tmp 1)) none none) 34 [g,intA (IntKind.wrap .i64 (a+b))] (look' h (topId g++(topId (intA (IntKind.wrap .i64 (a+b)))++([])))) 41) fun j d13=>
opM (opA pg (.slice 34 (.tmp 0) (some (.tmp 1)) none none) 34 [d,intA a] (look' (mpushs h d13) (topId d++(topId (intA a)++([])))) 44) fun k d14=>
opM (opA pg (.call ⟨.builtin .copy,#[.tmp 0,.tmp 1],#[34,34]⟩) 3 [j,k] (look' (mpushs (mpushs h d13) d14) (topId j++(topId k++([])))) 45) fun y d15=>
ex_i64 y fun an=>
chk (confOk [0,0,0,6,15,0,0,96,255] [⟨[],[]⟩,⟨[],[]⟩,⟨[],[]⟩,⟨[],[]⟩,⟨d13,topId g++(topId (intA (IntKind.wrap .i64 (a+b)))++([]))⟩,⟨[],[]⟩,⟨[],[]⟩,⟨d14,topId d++(topId (intA a)++([]))⟩,⟨d15,topId j++(topId k++([]))⟩]) (retL R (mpushs (mpushs (mpushs h d13) d14) d15) [some g])) else (
opP (opA pg (.slice 34 (.tmp 0) none (some (.tmp 1)) none) 34 [d,intA (IntKind.wrap .i64 (f+b))] (mget m) 26) fun c=>
opP (opA pg (.slice 34 (.tmp 0) (some (.tmp 1)) none none) 34 [c,intA (IntKind.wrap .i64 (a+b))] (mget m) 33) fun z=>
callQ pg KK.gl m 272 [e,z] fun aa=>
exB aa fun ab=>
bif (!ab) then (
opM (opA pg (.slice 34 (.tmp 0) (some (.tmp 1)) none none) 34 [c,intA (IntKind.wrap .i64 (a+b))] (look' m (topId c++(topId (intA (IntKind.wrap .i64 (a+b)))++([])))) 103) fun l d21=>
opM (opA pg (.slice 34 (.tmp 0) (some (.tmp 1)) none none) 34 [c,intA a] (look' (mpushs m d21) (topId c++(topId (intA a)++([])))) 106) fun n d22=>
opM (opA pg (.call ⟨.builtin .copy,#[.tmp 0,.tmp 1],#[34,34]⟩) 3 [l,n] (look' (mpushs (mpushs m d21) d22) (topId l++(topId n++([])))) 107) fun ad d23=>
ex_i64 ad fun ao=>
chk (confOk [0,0,0,6,15,0,0,96,255] [⟨[],[]⟩,⟨[],[]⟩,⟨[],[]⟩,⟨[],[]⟩,⟨d21,topId c++(topId (intA (IntKind.wrap .i64 (a+b)))++([]))⟩,⟨[],[]⟩,⟨[],[]⟩,⟨d22,topId c++(topId (intA a)++([]))⟩,⟨d23,topId l++(topId n++([]))⟩]) (opP (opA pg (.slice 34 (.tmp 0) (some (.tmp 1)) none none) 34 [c,intA a] (mget (mpushs (mpushs (mpushs m d21) d22) d23)) 110) fun ae=>
opN (opA pg (.call ⟨.builtin .copy,#[.tmp 0,.tmp 1],#[34,33]⟩) 3 [ae,e] (mget (mpushs (mpushs (mpushs m d21) d22) d23)) 112) (mpushs (mpushs (mpushs m d21) d22) d23) fun af ag=>
ex_i64 af fun ap=>
retL R ag [some c])) else (
opP (opA pg (.slice 34 (.tmp 0) (some (.tmp 1)) none none) 34 [c,intA f] (mget m) 101) fun ah=>
opN (opA pg (.call ⟨.builtin .copy,#[.tmp 0,.tmp 1],#[34,33]⟩) 3 [ah,e] (mget m) 103) m fun ai o=>
ex_i64 ai fun aq=>
opP (opA pg (.slice 34 (.tmp 0) (some (.tmp 1)) none none) 34 [c,intA a] (mget o) 106) fun aj=>
callW pg KK.gl o 108 273 [aj,intA b] fun ak al=>
exT0 ak<|
retL R al [some c]))))
theorem F212n1_call (a:AV) (b:Int) (c:AV) (m:Mem) (R:AV→Mem→Prop) (h:F212n1 a b c m R):callN pg KK.gl m 1 212 [a,intA b,c] R:=callN_of_F fol Tryz.func212 (code:=((Tryz.f212).body).getD .skip) krE krE krE (X:=F212n1 a b c m R) krE h
/- slices.Insert[skyway/api.Tube,skyway/api.TubeNode] at 2 -/
noncomputable def F212n2 (d:AV) (a:Int) (e:AV) (m:Mem) (R:AV→Mem→Prop):Prop:=
opP (opA pg (.slice 34 (.tmp 0) (some (.tmp 1)) none none) 34 [d,intA a] (mget m) 5) fun v0=>
opP (lenS e) fun p=>
ex_i64 p fun b=>
bif (b==(0)) then (
retL R m [some d]) else (
opP (lenS d) fun q=>
ex_i64 q fun f=>
bif (a==f) then (
opN (app (mget m) 129 6 48 [intA (0),intA (0),intA (0),intA (0),intA (0),intA (0)] 19 d e) m fun r s=>
retL R s [some r]) else (
opP (opA pg (.call ⟨.builtin .cap,#[.tmp 0],#[34]⟩) 3 [d] (mget m) 21) fun t=>
ex_i64 t fun u=>
bif (decide ((IntKind.wrap .i64 (f+b))>u)) then (
opP (opA pg (.slice 34 (.tmp 0) none (some (.tmp 1)) none) 34 [d,intA a] (mget m) 25) fun v=>
opN (opA pg (.call ⟨.builtin .append,#[.tmp 0,.tmp 1],#[34,3]⟩) 34 [v,intA (IntKind.wrap .i64 ((IntKind.wrap .i64 (f+b))-a))] (mget m) 31) m fun g i=>
opP (opA pg (.slice 34 (.tmp 0) (some (.tmp 1)) none none) 34 [g,intA a] (mget i) 35) fun w=>
opN (opA pg (.call ⟨.builtin .copy,#[.tmp 0,.tmp 1],#[34,33]⟩) 3 [w,e] (mget i) 37) i fun x h=>
ex_i64 x fun am=>
opM (opA pg (.slice 34 (.tmp 0) (some (.tmp 1)) none none) 34 [g,intA (IntKind.wrap .i64 (a+b))] (look' h (topId g++(topId (intA (IntKind.wrap .i64 (a+b)))++([])))) 42) fun j d13=>
opM (opA pg (.slice 34 (.tmp 0) (some (.tmp 1)) none none) 34 [d,intA a] (look' (mpushs h d13) (topId d++(topId (intA a)++([])))) 45) fun k d14=>
opM (opA pg (.call ⟨.builtin .copy,#[.tmp 0,.tmp 1],#[34,34]⟩) 3 [j,k] (look' (mpushs (mpushs h d13) d14) (topId j++(topId k++([])))) 46) fun y d15=>
ex_i64 y fun an=>
chk (confOk [0,0,0,6,15,0,0,96,255] [⟨[],[]⟩,⟨[],[]⟩,⟨[],[]⟩,⟨[],[]⟩,⟨d13,topId g++(topId (intA (IntKind.wrap .i64 (a+b)))++([]))⟩,⟨[],[]⟩,⟨[],[]⟩,⟨d14,topId d++(topId (intA a)++([]))⟩,⟨d15,topId j++(topId k++([]))⟩]) (retL R (mpushs (mpushs (mpushs h d13) d14) d15) [some g])) else (
opP (opA pg (.slice 34 (.tmp 0) none (some (.tmp 1)) none) 34 [d,intA (IntKind.wrap .i64 (f+b))] (mget m) 27) fun c=>
opP (opA pg (.slice 34 (.tmp 0) (some (.tmp 1)) none none) 34 [c,intA (IntKind.wrap .i64 (a+b))] (mget m) 34) fun z=>
callQ pg KK.gl m 272 [e,z] fun aa=>
exB aa fun ab=>
bif (!ab) then (
opM (opA pg (.slice 34 (.tmp 0) (some (.tmp 1)) none none) 34 [c,intA (IntKind.wrap .i64 (a+b))] (look' m (topId c++(topId (intA (IntKind.wrap .i64 (a+b)))++([])))) 104) fun l d21=>
opM (opA pg (.slice 34 (.tmp 0) (some (.tmp 1)) none none) 34 [c,intA a] (look' (mpushs m d21) (topId c++(topId (intA a)++([])))) 107) fun n d22=>
opM (opA pg (.call ⟨.builtin .copy,#[.tmp 0,.tmp 1],#[34,34]⟩) 3 [l,n] (look' (mpushs (mpushs m d21) d22) (topId l++(topId n++([])))) 108) fun ad d23=>
ex_i64 ad fun ao=>
chk (confOk [0,0,0,6,15,0,0,96,255] [⟨[],[]⟩,⟨[],[]⟩,⟨[],[]⟩,⟨[],[]⟩,⟨d21,topId c++(topId (intA (IntKind.wrap .i64 (a+b)))++([]))⟩,⟨[],[]⟩,⟨[],[]⟩,⟨d22,topId c++(topId (intA a)++([]))⟩,⟨d23,topId l++(topId n++([]))⟩]) (opP (opA pg (.slice 34 (.tmp 0) (some (.tmp 1)) none none) 34 [c,intA a] (mget (mpushs (mpushs (mpushs m d21) d22) d23)) 111) fun ae=>
opN (opA pg (.call ⟨.builtin .copy,#[.tmp 0,.tmp 1],#[34,33]⟩) 3 [ae,e] (mget (mpushs (mpushs (mpushs m d21) d22) d23)) 113) (mpushs (mpushs (mpushs m d21) d22) d23) fun af ag=>
ex_i64 af fun ap=>
retL R ag [some c])) else (
opP (opA pg (.slice 34 (.tmp 0) (some (.tmp 1)) none none) 34 [c,intA f] (mget m) 102) fun ah=>
opN (opA pg (.call ⟨.builtin .copy,#[.tmp 0,.tmp 1],#[34,33]⟩) 3 [ah,e] (mget m) 104) m fun ai o=>
ex_i64 ai fun aq=>
opP (opA pg (.slice 34 (.tmp 0) (some (.tmp 1)) none none) 34 [c,intA a] (mget o) 107) fun aj=>
callW pg KK.gl o 109 273 [aj,intA b] fun ak al=>
exT0 ak<|
retL R al [some c]))))
theorem F212n2_call (a:AV) (b:Int) (c:AV) (m:Mem) (R:AV→Mem→Prop) (h:F212n2 a b c m R):callN pg KK.gl m 2 212 [a,intA b,c] R:=callN_of_F fol Tryz.func212 (code:=((Tryz.f212).body).getD .skip) krE krE krE (X:=F212n2 a b c m R) krE h
end Go.Proofs.YtlenkbgeomojnaaGreatDoor
