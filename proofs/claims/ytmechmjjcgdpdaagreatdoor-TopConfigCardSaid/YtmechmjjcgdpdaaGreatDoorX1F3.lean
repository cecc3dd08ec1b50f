/- A part. -/
import Derived.Test.YtmechmjjcgdpdaaGreatDoorX1T
set_option linter.unusedVariables false
set_option maxRecDepth 100000
set_option maxHeartbeats 4000000
namespace Go.Proofs.YtmechmjjcgdpdaaGreatDoor
noncomputable def c3:Code:=((Tryz.f3).body).getD .skip
noncomputable def q3 (R:AV→Mem→Prop):A4→St→Prop:=Cr pg Tryz.f3 R
noncomputable def Tb:Code:=C0 c3 0
noncomputable def Ag6 (R:AV→Mem→Prop):A4→St→Prop:=Cy pg KK 219 0 c3 0 (q3 R)
noncomputable def An3 (R:AV→Mem→Prop) (N0:St→Prop):A4→St→Prop:=Cz N0 (Ag6 R)
def rL (a b:AV) (c:Int) (d:AV) (e:Bool) (f:AV) (g h:Int) (i j:AV) (k l:Int) (m:Mem):St:=⟨[(0,a),(1,b),(2,(Aa c)),(3,d),(8,(Ae e)),(9,f),(10,(Aa g)),(11,(Aa h)),(12,i),(57,j),(58,(Aa k)),(59,(Aa l))],m,100000⟩
noncomputable def Tc:Code:=C0 c3 1
noncomputable def Agf (R:AV→Mem→Prop):A4→St→Prop:=Cy pg KK 219 0 c3 1 (q3 R)
noncomputable def Ane (R:AV→Mem→Prop) (N0:St→Prop):A4→St→Prop:=Cz N0 (Agf R)
def rO (a:AV) (b:Int) (c:Bool) (d:AV) (e f:Int) (g h i:AV) (j k:Int) (m:Mem):St:=⟨[(1,a),(2,(Aa b)),(8,(Ae c)),(9,d),(10,(Aa e)),(11,(Aa f)),(12,g),(15,h),(83,i),(84,(Aa j)),(85,(Aa k))],m,200000⟩
noncomputable def Pr:Code:=C0 c3 2
noncomputable def Adf (R:AV→Mem→Prop):A4→St→Prop:=Cy pg KK 219 0 c3 2 (q3 R)
noncomputable def Ah5 (R:AV→Mem→Prop) (N0:St→Prop):A4→St→Prop:=Cz N0 (Adf R)
def dX (a:AV) (b:Int) (c:Bool) (d:AV) (e:Int) (f g:AV) (h:Int) (i:AV) (j k:Int) (m:Mem):St:=⟨[(1,a),(2,(Aa b)),(8,(Ae c)),(9,d),(11,(Aa e)),(12,f),(15,g),(22,(Aa h)),(142,i),(143,(Aa j)),(144,(Aa k))],m,300000⟩
noncomputable def Zt:Code:=C0 Pr 0
noncomputable def Yx (R:AV→Mem→Prop) (N0:St→Prop):A4→St→Prop:=Cy pg KK 219 0 Pr 0 (Ah5 R N0)
noncomputable def Ad1 (R:AV→Mem→Prop) (N0 N1:St→Prop):A4→St→Prop:=Cz N1 (Yx R N0)
def R9 (a:AV) (b:Int) (c:Bool) (d:AV) (e:Int) (f g:AV) (h:Int) (i:AV) (j k:Int) (l:AV) (n o:Int) (p:ByteArray) (q:AV) (m:Mem):St:=⟨[(1,a),(2,(Aa b)),(8,(Ae c)),(9,d),(11,(Aa e)),(12,f),(15,g),(22,(Aa h)),(24,(AV.ptr 300003 0)),(142,i),(143,(Aa j)),(144,(Aa k)),(149,l),(150,(Aa n)),(151,(Aa o))],((300003,some ⟨[AV.sc (.string p),q],37⟩)::m),400000⟩
noncomputable def Ti:Code:=C0 c3 3
noncomputable def Adj (R:AV→Mem→Prop):A4→St→Prop:=Cy pg KK 219 0 c3 3 (q3 R)
noncomputable def Am1 (R:AV→Mem→Prop) (N0:St→Prop):A4→St→Prop:=Cz N0 (Adj R)
def rX (a:Int) (b:Bool) (c:Int) (d:AV) (e:Int) (f g:AV) (h i:Int) (m:Mem):St:=⟨[(2,(Aa a)),(8,(Ae b)),(11,(Aa c)),(12,d),(22,(Aa e)),(30,f),(191,g),(192,(Aa h)),(193,(Aa i))],m,400000⟩
noncomputable def Afg (e o:AV) (p:Int) (f:AV) (q:Bool) (g:AV) (r w:Int) (c k:AV) (d a:Int) (m:Mem) (R:AV→Mem→Prop) (N0:St→Prop):Prop:=
bif (decide (a<d)) then (
Bg (Cw 2 k (Aa a)) fun s=>
Bg (F2 (Ao m) 2 s) fun x=>
Da x fun gY l=>
Ei gY fun s18=>
Hv (B7 l)<|Ia (kT 100008 9 1 1 [AV.sc (.string ⟨#[]⟩)] [(0,(AV.sc (.string s18)))]) ((100003,some ⟨[AV.sc (.string s18),l],32⟩)::(100003,some ⟨[AV.sc (.string ⟨#[]⟩),AV.Bp],32⟩)::m) fun t u=>
Ia (app (Ao u) 9 1 16 [AV.sc (.string ⟨#[]⟩)] 100009 c t) u fun v y=>
N0 ⟨[(0,e),(1,o),(2,(Aa p)),(3,f),(8,(Ae q)),(9,g),(10,(Aa r)),(11,(Aa w)),(12,v),(57,k),(58,(Aa d)),(59,(Aa (IntKind.wrap .i64 (a+(1))))),(60,(Ae (decide (a<d)))),(61,s),(62,(AV.agg [AV.sc (.string s18),l])),(14,(AV.ptr 100003 0)),(63,c),(64,(AV.ptr 100003 0)),(65,(AV.sc (.string s18))),(66,t),(67,v),(68,(Aa (IntKind.wrap .i64 (a+(1)))))],y,100013⟩) else (
Ep pg KK.gl m 100002 6 [c] fun z n=>
H5 z fun h aa=>
Af aa fun b=>
bif (b !=(0)) then (
A8 R n [some (Ae false)]) else (
Bg (Cn g) fun ab=>
Af ab fun i=>
Bg (Cn e) fun ad=>
Af ad fun j=>
bif (i !=j) then (
A8 R n [some (Ae false)]) else (
Bg (Cn f) fun ae=>
Af ae fun af=>
Bu pg KK 219 0 (.loop Tc) ⟨[(0,e),(1,o),(2,(Aa p)),(3,f),(8,(Ae q)),(9,g),(10,(Aa r)),(11,(Aa b)),(12,c),(57,k),(58,(Aa d)),(59,(Aa a)),(60,(Ae (decide (a<d)))),(70,c),(71,(AV.Bn [h,Aa b])),(69,(AV.Bn [h,Aa b])),(72,h),(73,(Aa b)),(15,h),(74,(Aa b)),(75,(Ae (b !=(0)))),(76,(Ae false)),(77,g),(78,(Aa i)),(79,e),(80,(Aa j)),(81,(Ae (i !=j))),(82,(Ae (i !=j))),(83,f),(84,(Aa af)),(85,(Aa (0)))],n,100083⟩ (Agf R))))
theorem Ab7 (a b:AV) (c:Int) (d:AV) (e:Bool) (f:AV) (g h:Int) (i j:AV) (k l:Int) (m:Mem) (R:AV→Mem→Prop) (N0:St→Prop):W pg KK 219 0 Tb (rL a b c d e f g h i j k l m) (An3 R N0)=Afg a b c d e f g h i j k l m R N0:=by kernel_rfl
theorem Aox (R:AV→Mem→Prop) {σ:Type} (I:σ→Prop) (a b:σ→AV) (c:σ→Int) (d:σ→AV) (e:σ→Bool) (f:σ→AV) (g h:σ→Int) (i j:σ→AV) (k l:σ→Int) (m:σ→Mem) (μ:σ→Nat) (step:∀x,I x→Afg (a x) (b x) (c x) (d x) (e x) (f x) (g x) (h x) (i x) (j x) (k x) (l x) (m x) R (fun s'=>∃y,I y∧μ y<μ x∧Bb KK 219 0 s' (rL (a y) (b y) (c y) (d y) (e y) (f y) (g y) (h y) (i y) (j y) (k y) (l y) (m y)))) (x:σ) (hx:I x) {s:St} (hw:Bb KK 219 0 s (rL (a x) (b x) (c x) (d x) (e x) (f x) (g x) (h x) (i x) (j x) (k x) (l x) (m x))):Bu pg KK 219 0 (.loop Tb) s (Ag6 R):=
 Bu.Eh hw (Bu.loops Dl I (fun x=>rL (a x) (b x) (c x) (d x) (e x) (f x) (g x) (h x) (i x) (j x) (k x) (l x) (m x)) μ (fun x hx=>(Ab7 (a x) (b x) (c x) (d x) (e x) (f x) (g x) (h x) (i x) (j x) (k x) (l x) (m x) R _).mpr (step x hx)) x hx)
noncomputable def Ada (r:AV) (s:Int) (t:Bool) (u:AV) (n v:Int) (l a q:AV) (g d:Int) (m:Mem) (R:AV→Mem→Prop) (N0:St→Prop):Prop:=
bif (decide (d<g)) then (
Bg (Cw 1 q (Aa d)) fun w=>
Bg (Ff (Ao m) w) fun af=>
Af af fun b=>
Bg (Cn a) fun ag=>
Af ag fun i=>
bif (i==(0)) then (
A8 R m [some (Ae false)]) else (
Gb (Cn a) fun ah d36=>
Af ah fun x=>
Va pg KK.gl (Ac m d36) 200011 7 [Aa b,Aa x] fun ai d38 ft38=>
Af ai fun y=>
Gb (Cw 2 a (Aa y)) fun o d40=>
Gb (F2 (Cf (Ac (Ac (Ac m d36) d38) d40) (A3 o++([]))) 2 o) fun aj d41=>
Da aj fun dV Nk=>
Ei dV fun s44=>
Gb (Cn a) fun ak d45=>
Af ak fun z=>
Va pg KK.gl (Ac (Ac (Ac (Ac (Ac m d36) d38) d40) d41) d45) 200019 7 [Aa (IntKind.wrap .i64 (Int.tdiv b (20))),Aa z] fun am d47 ft47=>
Af am fun aa=>
Gb (Cw 2 a (Aa aa)) fun p d49=>
Gb (F2 (Cf (Ac (Ac (Ac (Ac (Ac (Ac (Ac m d36) d38) d40) d41) d45) d47) d49) (A3 p++([]))) 2 p) fun an d50=>
Da an fun ao c52=>
Ei ao fun s53=>
C4 pg (Cf ((200023,some ⟨[AV.sc (.string ⟨#[]⟩),AV.Bp],37⟩)::(200022,some ⟨[AV.sc (.string ⟨#[]⟩),AV.Bp],37⟩)::(Ac (Ac (Ac (Ac (Ac (Ac (Ac (Ac m d36) d38) d40) d41) d45) d47) d49) d50)) (A3 (AV.ptr 200022 0)++(A3 (AV.agg [AV.sc (.string s44),Nk])++([])))) 37 (AV.ptr 200022 0) (AV.agg [AV.sc (.string s44),Nk]) fun bd d54=>
C4 pg (Cf (Ac ((200023,some ⟨[AV.sc (.string ⟨#[]⟩),AV.Bp],37⟩)::(200022,some ⟨[AV.sc (.string ⟨#[]⟩),AV.Bp],37⟩)::(Ac (Ac (Ac (Ac (Ac (Ac (Ac (Ac m d36) d38) d40) d41) d45) d47) d49) d50)) d54) (A3 (AV.ptr 200023 0)++(A3 (AV.agg [AV.sc (.string s53),c52])++([])))) 37 (AV.ptr 200023 0) (AV.agg [AV.sc (.string s53),c52]) fun be d55=>
Hv (D5 [0,0,0,4,14,31,63,0,0,256,0,1024,3870,8094,16286,0,0,106367,262143] [⟨[],[]⟩,⟨[],[]⟩,⟨[],[]⟩,⟨d36,A3 a++([])⟩,⟨d38,ft38⟩,⟨d40,[]⟩,⟨d41,A3 o++([])⟩,⟨[],[]⟩,⟨[],[]⟩,⟨[],[]⟩,⟨[],[]⟩,⟨d45,A3 a++([])⟩,⟨d47,ft47⟩,⟨d49,[]⟩,⟨d50,A3 p++([])⟩,⟨[(200022,some ⟨[AV.sc (.string ⟨#[]⟩),AV.Bp],37⟩)],[]⟩,⟨[(200023,some ⟨[AV.sc (.string ⟨#[]⟩),AV.Bp],37⟩)],[]⟩,⟨d54,A3 (AV.ptr 200022 0)++(A3 (AV.agg [AV.sc (.string s44),Nk])++([]))⟩,⟨d55,A3 (AV.ptr 200023 0)++(A3 (AV.agg [AV.sc (.string s53),c52])++([]))⟩]) (Bg (Ff (Ao (Ac (Ac ((200023,some ⟨[AV.sc (.string ⟨#[]⟩),AV.Bp],37⟩)::(200022,some ⟨[AV.sc (.string ⟨#[]⟩),AV.Bp],37⟩)::(Ac (Ac (Ac (Ac (Ac (Ac (Ac (Ac m d36) d38) d40) d41) d45) d47) d49) d50)) d54) d55)) (AV.ptr 200022 1)) fun ab=>
Bg (Cn ab) fun ap=>
Af ap fun j=>
bif (j==(0)) then (
A8 R (Ac (Ac ((200023,some ⟨[AV.sc (.string ⟨#[]⟩),AV.Bp],37⟩)::(200022,some ⟨[AV.sc (.string ⟨#[]⟩),AV.Bp],37⟩)::(Ac (Ac (Ac (Ac (Ac (Ac (Ac (Ac m d36) d38) d40) d41) d45) d47) d49) d50)) d54) d55) [some (Ae false)]) else (
Bg (Ff (Ao (Ac (Ac ((200023,some ⟨[AV.sc (.string ⟨#[]⟩),AV.Bp],37⟩)::(200022,some ⟨[AV.sc (.string ⟨#[]⟩),AV.Bp],37⟩)::(Ac (Ac (Ac (Ac (Ac (Ac (Ac (Ac m d36) d38) d40) d41) d45) d47) d49) d50)) d54) d55)) (AV.ptr 200022 0)) fun aq=>
Ei aq fun s60=>
Bg (Ff (Ao (Ac (Ac ((200023,some ⟨[AV.sc (.string ⟨#[]⟩),AV.Bp],37⟩)::(200022,some ⟨[AV.sc (.string ⟨#[]⟩),AV.Bp],37⟩)::(Ac (Ac (Ac (Ac (Ac (Ac (Ac (Ac m d36) d38) d40) d41) d45) d47) d49) d50)) d54) d55)) (AV.ptr 200023 0)) fun ar=>
Ei ar fun s62=>
Bj pg KK.gl (Ac (Ac ((200023,some ⟨[AV.sc (.string ⟨#[]⟩),AV.Bp],37⟩)::(200022,some ⟨[AV.sc (.string ⟨#[]⟩),AV.Bp],37⟩)::(Ac (Ac (Ac (Ac (Ac (Ac (Ac (Ac m d36) d38) d40) d41) d45) d47) d49) d50)) d54) d55) 8 [a,AV.sc (.string s60),AV.sc (.string s62)] fun au=>
H5 au fun e av=>
Af av fun c=>
Bj pg KK.gl (Ac (Ac ((200023,some ⟨[AV.sc (.string ⟨#[]⟩),AV.Bp],37⟩)::(200022,some ⟨[AV.sc (.string ⟨#[]⟩),AV.Bp],37⟩)::(Ac (Ac (Ac (Ac (Ac (Ac (Ac (Ac m d36) d38) d40) d41) d45) d47) d49) d50)) d54) d55) 7 [Aa (IntKind.wrap .i64 (Int.tdiv b (7))),Aa (2)] fun aw=>
Af aw fun k=>
bif (k==(0)) then (
Bg (Ff (Ao (Ac (Ac ((200023,some ⟨[AV.sc (.string ⟨#[]⟩),AV.Bp],37⟩)::(200022,some ⟨[AV.sc (.string ⟨#[]⟩),AV.Bp],37⟩)::(Ac (Ac (Ac (Ac (Ac (Ac (Ac (Ac m d36) d38) d40) d41) d45) d47) d49) d50)) d54) d55)) (AV.ptr 200022 0)) fun ax=>
Ei ax fun s70=>
Bj pg KK.gl (Ac (Ac ((200023,some ⟨[AV.sc (.string ⟨#[]⟩),AV.Bp],37⟩)::(200022,some ⟨[AV.sc (.string ⟨#[]⟩),AV.Bp],37⟩)::(Ac (Ac (Ac (Ac (Ac (Ac (Ac (Ac m d36) d38) d40) d41) d45) d47) d49) d50)) d54) d55) 10 [a,l] fun ay=>
Ei ay fun s72=>
Bg (Ff (Ao (Ac (Ac ((200023,some ⟨[AV.sc (.string ⟨#[]⟩),AV.Bp],37⟩)::(200022,some ⟨[AV.sc (.string ⟨#[]⟩),AV.Bp],37⟩)::(Ac (Ac (Ac (Ac (Ac (Ac (Ac (Ac m d36) d38) d40) d41) d45) d47) d49) d50)) d54) d55)) (AV.ptr 200022 1)) fun ad=>
Bg (Cv pg (.slice 29 (.tmp 0) none (some (.tmp 1)) none) 29 [ad,Aa (1)] (Ao (Ac (Ac ((200023,some ⟨[AV.sc (.string ⟨#[]⟩),AV.Bp],37⟩)::(200022,some ⟨[AV.sc (.string ⟨#[]⟩),AV.Bp],37⟩)::(Ac (Ac (Ac (Ac (Ac (Ac (Ac (Ac m d36) d38) d40) d41) d45) d47) d49) d50)) d54) d55)) 200179) fun ae=>
Bj pg KK.gl (Ac (Ac ((200023,some ⟨[AV.sc (.string ⟨#[]⟩),AV.Bp],37⟩)::(200022,some ⟨[AV.sc (.string ⟨#[]⟩),AV.Bp],37⟩)::(Ac (Ac (Ac (Ac (Ac (Ac (Ac (Ac m d36) d38) d40) d41) d45) d47) d49) d50)) d54) d55) 9 [a,AV.sc (.string s70),AV.sc (.string s72),ae] fun az=>
H5 az fun h ba=>
Af ba fun f=>
bif (f==(0)) then (
N0 ⟨[(1,r),(2,(Aa s)),(8,(Ae t)),(9,u),(10,(Aa n)),(11,(Aa v)),(12,l),(15,h),(83,q),(84,(Aa g)),(85,(Aa (IntKind.wrap .i64 (d+(1))))),(86,(Ae (decide (d<g)))),(87,w),(88,(Aa b)),(17,(Aa b)),(89,a),(90,(Aa i)),(91,(Ae (i==(0)))),(92,a),(93,(Aa b)),(94,a),(95,(Aa x)),(96,(Aa y)),(97,o),(98,(AV.agg [AV.sc (.string s44),Nk])),(99,a),(100,(Aa b)),(101,(Aa (IntKind.wrap .i64 (Int.tdiv b (20))))),(102,a),(103,(Aa z)),(104,(Aa aa)),(105,p),(106,(AV.agg [AV.sc (.string s53),c52])),(18,(AV.ptr 200022 0)),(19,(AV.ptr 200023 0)),(107,(AV.ptr 200022 1)),(108,ab),(109,(Aa j)),(110,(Ae (j==(0)))),(112,a),(113,(AV.ptr 200022 0)),(114,(AV.sc (.string s60))),(115,(AV.ptr 200023 0)),(116,(AV.sc (.string s62))),(117,(AV.Bn [e,Aa c])),(111,(AV.Bn [e,Aa c])),(118,e),(119,(Aa c)),(20,h),(21,(Aa f)),(120,(Aa b)),(121,(Aa (IntKind.wrap .i64 (Int.tdiv b (7))))),(122,(Aa k)),(123,(Ae (k==(0)))),(125,a),(126,(AV.ptr 200022 0)),(127,(AV.sc (.string s70))),(128,a),(129,l),(130,(AV.sc (.string s72))),(131,(AV.ptr 200022 1)),(132,ad),(133,ae),(134,(AV.Bn [h,Aa f])),(124,(AV.Bn [h,Aa f])),(135,h),(136,(Aa f)),(137,(Aa f)),(138,(Ae (f==(0)))),(139,h),(140,(Aa (IntKind.wrap .i64 (d+(1)))))],Ac (Ac ((200023,some ⟨[AV.sc (.string ⟨#[]⟩),AV.Bp],37⟩)::(200022,some ⟨[AV.sc (.string ⟨#[]⟩),AV.Bp],37⟩)::(Ac (Ac (Ac (Ac (Ac (Ac (Ac (Ac m d36) d38) d40) d41) d45) d47) d49) d50)) d54) d55,200192⟩) else (
N0 ⟨[(1,r),(2,(Aa s)),(8,(Ae t)),(9,u),(10,(Aa n)),(11,(Aa v)),(12,l),(15,a),(83,q),(84,(Aa g)),(85,(Aa (IntKind.wrap .i64 (d+(1))))),(86,(Ae (decide (d<g)))),(87,w),(88,(Aa b)),(17,(Aa b)),(89,a),(90,(Aa i)),(91,(Ae (i==(0)))),(92,a),(93,(Aa b)),(94,a),(95,(Aa x)),(96,(Aa y)),(97,o),(98,(AV.agg [AV.sc (.string s44),Nk])),(99,a),(100,(Aa b)),(101,(Aa (IntKind.wrap .i64 (Int.tdiv b (20))))),(102,a),(103,(Aa z)),(104,(Aa aa)),(105,p),(106,(AV.agg [AV.sc (.string s53),c52])),(18,(AV.ptr 200022 0)),(19,(AV.ptr 200023 0)),(107,(AV.ptr 200022 1)),(108,ab),(109,(Aa j)),(110,(Ae (j==(0)))),(112,a),(113,(AV.ptr 200022 0)),(114,(AV.sc (.string s60))),(115,(AV.ptr 200023 0)),(116,(AV.sc (.string s62))),(117,(AV.Bn [e,Aa c])),(111,(AV.Bn [e,Aa c])),(118,e),(119,(Aa c)),(20,h),(21,(Aa f)),(120,(Aa b)),(121,(Aa (IntKind.wrap .i64 (Int.tdiv b (7))))),(122,(Aa k)),(123,(Ae (k==(0)))),(125,a),(126,(AV.ptr 200022 0)),(127,(AV.sc (.string s70))),(128,a),(129,l),(130,(AV.sc (.string s72))),(131,(AV.ptr 200022 1)),(132,ad),(133,ae),(134,(AV.Bn [h,Aa f])),(124,(AV.Bn [h,Aa f])),(135,h),(136,(Aa f)),(137,(Aa f)),(138,(Ae (f==(0)))),(140,(Aa (IntKind.wrap .i64 (d+(1)))))],Ac (Ac ((200023,some ⟨[AV.sc (.string ⟨#[]⟩),AV.Bp],37⟩)::(200022,some ⟨[AV.sc (.string ⟨#[]⟩),AV.Bp],37⟩)::(Ac (Ac (Ac (Ac (Ac (Ac (Ac (Ac m d36) d38) d40) d41) d45) d47) d49) d50)) d54) d55,200190⟩)) else (
bif (c==(0)) then (
N0 ⟨[(1,r),(2,(Aa s)),(8,(Ae t)),(9,u),(10,(Aa n)),(11,(Aa v)),(12,l),(15,e),(83,q),(84,(Aa g)),(85,(Aa (IntKind.wrap .i64 (d+(1))))),(86,(Ae (decide (d<g)))),(87,w),(88,(Aa b)),(17,(Aa b)),(89,a),(90,(Aa i)),(91,(Ae (i==(0)))),(92,a),(93,(Aa b)),(94,a),(95,(Aa x)),(96,(Aa y)),(97,o),(98,(AV.agg [AV.sc (.string s44),Nk])),(99,a),(100,(Aa b)),(101,(Aa (IntKind.wrap .i64 (Int.tdiv b (20))))),(102,a),(103,(Aa z)),(104,(Aa aa)),(105,p),(106,(AV.agg [AV.sc (.string s53),c52])),(18,(AV.ptr 200022 0)),(19,(AV.ptr 200023 0)),(107,(AV.ptr 200022 1)),(108,ab),(109,(Aa j)),(110,(Ae (j==(0)))),(112,a),(113,(AV.ptr 200022 0)),(114,(AV.sc (.string s60))),(115,(AV.ptr 200023 0)),(116,(AV.sc (.string s62))),(117,(AV.Bn [e,Aa c])),(111,(AV.Bn [e,Aa c])),(118,e),(119,(Aa c)),(20,e),(21,(Aa c)),(120,(Aa b)),(121,(Aa (IntKind.wrap .i64 (Int.tdiv b (7))))),(122,(Aa k)),(123,(Ae (k==(0)))),(137,(Aa c)),(138,(Ae (c==(0)))),(139,e),(140,(Aa (IntKind.wrap .i64 (d+(1)))))],Ac (Ac ((200023,some ⟨[AV.sc (.string ⟨#[]⟩),AV.Bp],37⟩)::(200022,some ⟨[AV.sc (.string ⟨#[]⟩),AV.Bp],37⟩)::(Ac (Ac (Ac (Ac (Ac (Ac (Ac (Ac m d36) d38) d40) d41) d45) d47) d49) d50)) d54) d55,200177⟩) else (
N0 ⟨[(1,r),(2,(Aa s)),(8,(Ae t)),(9,u),(10,(Aa n)),(11,(Aa v)),(12,l),(15,a),(83,q),(84,(Aa g)),(85,(Aa (IntKind.wrap .i64 (d+(1))))),(86,(Ae (decide (d<g)))),(87,w),(88,(Aa b)),(17,(Aa b)),(89,a),(90,(Aa i)),(91,(Ae (i==(0)))),(92,a),(93,(Aa b)),(94,a),(95,(Aa x)),(96,(Aa y)),(97,o),(98,(AV.agg [AV.sc (.string s44),Nk])),(99,a),(100,(Aa b)),(101,(Aa (IntKind.wrap .i64 (Int.tdiv b (20))))),(102,a),(103,(Aa z)),(104,(Aa aa)),(105,p),(106,(AV.agg [AV.sc (.string s53),c52])),(18,(AV.ptr 200022 0)),(19,(AV.ptr 200023 0)),(107,(AV.ptr 200022 1)),(108,ab),(109,(Aa j)),(110,(Ae (j==(0)))),(112,a),(113,(AV.ptr 200022 0)),(114,(AV.sc (.string s60))),(115,(AV.ptr 200023 0)),(116,(AV.sc (.string s62))),(117,(AV.Bn [e,Aa c])),(111,(AV.Bn [e,Aa c])),(118,e),(119,(Aa c)),(20,e),(21,(Aa c)),(120,(Aa b)),(121,(Aa (IntKind.wrap .i64 (Int.tdiv b (7))))),(122,(Aa k)),(123,(Ae (k==(0)))),(137,(Aa c)),(138,(Ae (c==(0)))),(140,(Aa (IntKind.wrap .i64 (d+(1)))))],Ac (Ac ((200023,some ⟨[AV.sc (.string ⟨#[]⟩),AV.Bp],37⟩)::(200022,some ⟨[AV.sc (.string ⟨#[]⟩),AV.Bp],37⟩)::(Ac (Ac (Ac (Ac (Ac (Ac (Ac (Ac m d36) d38) d40) d41) d45) d47) d49) d50)) d54) d55,200175⟩)))))) else (
Bg (Cn a) fun bb=>
Af bb fun bc=>
Bu pg KK 219 0 (.loop Pr) ⟨[(1,r),(2,(Aa s)),(8,(Ae t)),(9,u),(10,(Aa n)),(11,(Aa v)),(12,l),(15,a),(83,q),(84,(Aa g)),(85,(Aa d)),(86,(Ae (decide (d<g)))),(141,(Aa n)),(22,(Aa n)),(142,a),(143,(Aa bc)),(144,(Aa (0)))],m,200006⟩ (Adf R))
theorem Ac3 (a:AV) (b:Int) (c:Bool) (d:AV) (e f:Int) (g h i:AV) (j k:Int) (m:Mem) (R:AV→Mem→Prop) (N0:St→Prop):W pg KK 219 0 Tc (rO a b c d e f g h i j k m) (Ane R N0)=Ada a b c d e f g h i j k m R N0:=by kernel_rfl
theorem Apn (R:AV→Mem→Prop) {σ:Type} (I:σ→Prop) (a:σ→AV) (b:σ→Int) (c:σ→Bool) (d:σ→AV) (e f:σ→Int) (g h i:σ→AV) (j k:σ→Int) (m:σ→Mem) (μ:σ→Nat) (step:∀x,I x→Ada (a x) (b x) (c x) (d x) (e x) (f x) (g x) (h x) (i x) (j x) (k x) (m x) R (fun s'=>∃y,I y∧μ y<μ x∧Bb KK 219 0 s' (rO (a y) (b y) (c y) (d y) (e y) (f y) (g y) (h y) (i y) (j y) (k y) (m y)))) (x:σ) (hx:I x) {s:St} (hw:Bb KK 219 0 s (rO (a x) (b x) (c x) (d x) (e x) (f x) (g x) (h x) (i x) (j x) (k x) (m x))):Bu pg KK 219 0 (.loop Tc) s (Agf R):=
 Bu.Eh hw (Bu.loops Dl I (fun x=>rO (a x) (b x) (c x) (d x) (e x) (f x) (g x) (h x) (i x) (j x) (k x) (m x)) μ (fun x hx=>(Ac3 (a x) (b x) (c x) (d x) (e x) (f x) (g x) (h x) (i x) (j x) (k x) (m x) R _).mpr (step x hx)) x hx)
noncomputable def Aea (d:AV) (j:Int) (k:Bool) (l:AV) (p:Int) (e f:AV) (n:Int) (i:AV) (b a:Int) (m:Mem) (R:AV→Mem→Prop) (N0:St→Prop):Prop:=
bif (decide (a<b)) then (
Bg (Cw 2 i (Aa a)) fun o=>
Bg (F2 (Ao m) 2 o) fun q=>
Da q fun c83 c=>
Ei c83 fun s85=>
Hv (B7 c)<|Bg (Cn c) fun r=>
Af r fun s=>
Bu pg KK 219 0 (.loop Zt) ⟨[(1,d),(2,(Aa j)),(8,(Ae k)),(9,l),(11,(Aa p)),(12,e),(15,f),(22,(Aa n)),(142,i),(143,(Aa b)),(144,(Aa a)),(145,(Ae (decide (a<b)))),(146,o),(147,(AV.agg [AV.sc (.string s85),c])),(24,(AV.ptr 300003 0)),(148,(AV.ptr 300003 1)),(149,c),(150,(Aa s)),(151,(Aa (0)))],((300003,some ⟨[AV.sc (.string s85),c],37⟩)::(300003,some ⟨[AV.sc (.string ⟨#[]⟩),AV.Bp],37⟩)::m),300009⟩ (Yx R N0)) else (
Bj pg KK.gl m 13 [f] fun t=>
H5 t fun g u=>
Af u fun h=>
Ep pg KK.gl m 300072 14 [e] fun v w=>
T7 v<|
Bg (Cn d) fun x=>
Af x fun y=>
Bu pg KK 219 0 (.loop Ti) ⟨[(1,d),(2,(Aa j)),(8,(Ae k)),(9,l),(11,(Aa h)),(12,e),(15,f),(22,(Aa n)),(142,i),(143,(Aa b)),(144,(Aa a)),(145,(Ae (decide (a<b)))),(185,f),(186,(AV.Bn [g,Aa h])),(184,(AV.Bn [g,Aa h])),(187,g),(188,(Aa h)),(30,g),(189,e),(190,(AV.Bn [])),(191,d),(192,(Aa y)),(193,(Aa (0)))],w,300139⟩ (Adj R))
theorem Agh (a:AV) (b:Int) (c:Bool) (d:AV) (e:Int) (f g:AV) (h:Int) (i:AV) (j k:Int) (m:Mem) (R:AV→Mem→Prop) (N0:St→Prop):W pg KK 219 0 Pr (dX a b c d e f g h i j k m) (Ah5 R N0)=Aea a b c d e f g h i j k m R N0:=by kernel_rfl
theorem Aoy (R:AV→Mem→Prop) {σ:Type} (I:σ→Prop) (a:σ→AV) (b:σ→Int) (c:σ→Bool) (d:σ→AV) (e:σ→Int) (f g:σ→AV) (h:σ→Int) (i:σ→AV) (j k:σ→Int) (m:σ→Mem) (μ:σ→Nat) (step:∀x,I x→Aea (a x) (b x) (c x) (d x) (e x) (f x) (g x) (h x) (i x) (j x) (k x) (m x) R (fun s'=>∃y,I y∧μ y<μ x∧Bb KK 219 0 s' (dX (a y) (b y) (c y) (d y) (e y) (f y) (g y) (h y) (i y) (j y) (k y) (m y)))) (x:σ) (hx:I x) {s:St} (hw:Bb KK 219 0 s (dX (a x) (b x) (c x) (d x) (e x) (f x) (g x) (h x) (i x) (j x) (k x) (m x))):Bu pg KK 219 0 (.loop Pr) s (Adf R):=
 Bu.Eh hw (Bu.loops Dl I (fun x=>dX (a x) (b x) (c x) (d x) (e x) (f x) (g x) (h x) (i x) (j x) (k x) (m x)) μ (fun x hx=>(Agh (a x) (b x) (c x) (d x) (e x) (f x) (g x) (h x) (i x) (j x) (k x) (m x) R _).mpr (step x hx)) x hx)
noncomputable def aQ (o:AV) (p:Int) (q:Bool) (g:AV) (r:Int) (h i:AV) (j:Int) (s:AV) (t k:Int) (l:AV) (f d:Int) (a:ByteArray) (b:AV) (m:Mem) (R:AV→Mem→Prop) (N0 N1:St→Prop):Prop:=
bif (decide (d<f)) then (
Bg (Cw 1 l (Aa d)) fun u=>
Bg (Ff (Ao ((300003,some ⟨[AV.sc (.string a),b],37⟩)::m)) u) fun w=>
Ei w fun s90=>
Bj pg KK.gl ((300003,some ⟨[AV.sc (.string a),b],37⟩)::m) 11 [h,AV.sc (.string s90)] fun x=>
Af x fun e=>
Bj pg KK.gl ((300003,some ⟨[AV.sc (.string a),b],37⟩)::m) 12 [i,AV.sc (.string s90)] fun y=>
H5 y fun z c95=>
Ei z fun s96=>
Af c95 fun c=>
bif (decide (e<(0))) then (
A8 R ((300003,some ⟨[AV.sc (.string a),b],37⟩)::m) [some (Ae false)]) else (
bif (c !=(0)) then (
A8 R ((300003,some ⟨[AV.sc (.string a),b],37⟩)::m) [some (Ae false)]) else (
bif (!((s96).toList==(a).toList)) then (
A8 R ((300003,some ⟨[AV.sc (.string a),b],37⟩)::m) [some (Ae false)]) else (
Bg (Cw 1 g (Aa e)) fun v=>
Bg (Ff (Ao ((300003,some ⟨[AV.sc (.string a),b],37⟩)::m)) v) fun aa=>
Af aa fun n=>
N1 ⟨[(1,o),(2,(Aa p)),(8,(Ae q)),(9,g),(11,(Aa r)),(12,h),(15,i),(22,(Aa (IntKind.wrap .i64 (j+n)))),(24,(AV.ptr 300003 0)),(142,s),(143,(Aa t)),(144,(Aa k)),(149,l),(150,(Aa f)),(151,(Aa (IntKind.wrap .i64 (d+(1))))),(152,(Ae (decide (d<f)))),(153,u),(154,(AV.sc (.string s90))),(26,(AV.sc (.string s90))),(155,h),(156,(AV.sc (.string s90))),(157,(Aa e)),(27,(Aa e)),(159,i),(160,(AV.sc (.string s90))),(161,(AV.Bn [AV.sc (.string s96),Aa c])),(158,(AV.Bn [AV.sc (.string s96),Aa c])),(162,(AV.sc (.string s96))),(163,(Aa c)),(28,(AV.sc (.string s96))),(29,(Aa c)),(164,(Aa e)),(165,(Ae (decide (e<(0))))),(166,(Ae false)),(167,(Aa c)),(168,(Ae (c !=(0)))),(169,(Ae (c !=(0)))),(170,(Ae false)),(171,(AV.sc (.string s96))),(172,(AV.ptr 300003 0)),(173,(AV.sc (.string a))),(174,(Ae (!((s96).toList==(a).toList)))),(175,(Ae (!((s96).toList==(a).toList)))),(176,(Aa j)),(177,g),(178,(Aa e)),(179,v),(180,(Aa n)),(181,(Aa (IntKind.wrap .i64 (j+n)))),(182,(Aa (IntKind.wrap .i64 (d+(1)))))],((300003,some ⟨[AV.sc (.string a),b],37⟩)::m),400163⟩)))) else (
N0 ⟨[(1,o),(2,(Aa p)),(8,(Ae q)),(9,g),(11,(Aa r)),(12,h),(15,i),(22,(Aa j)),(24,(AV.ptr 300003 0)),(142,s),(143,(Aa t)),(144,(Aa (IntKind.wrap .i64 (k+(1))))),(149,l),(150,(Aa f)),(151,(Aa d)),(152,(Ae (decide (d<f)))),(183,(Aa (IntKind.wrap .i64 (k+(1)))))],((300003,some ⟨[AV.sc (.string a),b],37⟩)::m),400003⟩)
theorem pB (a:AV) (b:Int) (c:Bool) (d:AV) (e:Int) (f g:AV) (h:Int) (i:AV) (j k:Int) (l:AV) (n o:Int) (p:ByteArray) (q:AV) (m:Mem) (R:AV→Mem→Prop) (N0 N1:St→Prop):W pg KK 219 0 Zt (R9 a b c d e f g h i j k l n o p q m) (Ad1 R N0 N1)=aQ a b c d e f g h i j k l n o p q m R N0 N1:=by kernel_rfl
theorem Ai2 (R:AV→Mem→Prop) (N0:St→Prop) {σ:Type} (I:σ→Prop) (a:σ→AV) (b:σ→Int) (c:σ→Bool) (d:σ→AV) (e:σ→Int) (f g:σ→AV) (h:σ→Int) (i:σ→AV) (j k:σ→Int) (l:σ→AV) (n o:σ→Int) (p:σ→ByteArray) (q:σ→AV) (m:σ→Mem) (μ:σ→Nat) (step:∀x,I x→aQ (a x) (b x) (c x) (d x) (e x) (f x) (g x) (h x) (i x) (j x) (k x) (l x) (n x) (o x) (p x) (q x) (m x) R N0 (fun s'=>∃y,I y∧μ y<μ x∧Bb KK 219 0 s' (R9 (a y) (b y) (c y) (d y) (e y) (f y) (g y) (h y) (i y) (j y) (k y) (l y) (n y) (o y) (p y) (q y) (m y)))) (x:σ) (hx:I x) {s:St} (hw:Bb KK 219 0 s (R9 (a x) (b x) (c x) (d x) (e x) (f x) (g x) (h x) (i x) (j x) (k x) (l x) (n x) (o x) (p x) (q x) (m x))):Bu pg KK 219 0 (.loop Zt) s (Yx R N0):=
 Bu.Eh hw (Bu.loops Dl I (fun x=>R9 (a x) (b x) (c x) (d x) (e x) (f x) (g x) (h x) (i x) (j x) (k x) (l x) (n x) (o x) (p x) (q x) (m x)) μ (fun x hx=>(pB (a x) (b x) (c x) (d x) (e x) (f x) (g x) (h x) (i x) (j x) (k x) (l x) (n x) (o x) (p x) (q x) (m x) R N0 _).mpr (step x hx)) x hx)
noncomputable def Ag2 (j:Int) (s:Bool) (n:Int) (o:AV) (k:Int) (p q:AV) (l b:Int) (m:Mem) (R:AV→Mem→Prop) (N0:St→Prop):Prop:=
bif (decide (b<l)) then (
Bg (Cw 1 q (Aa b)) fun r=>
Bg (Ff (Ao m) r) fun i=>
Bj pg KK.gl m 15 [i,Aa j] fun t=>
H5 t fun u v=>
Th u fun w x y z aa ab=>
Af w fun c=>
Af x fun d=>
Af y fun e=>
Af z fun f=>
Af aa fun g=>
Af ab fun h=>
Af v fun a=>
bif (a==(0)) then (
N0 ⟨[(2,(Aa j)),(8,(Ae s)),(11,(Aa n)),(12,o),(22,(Aa (IntKind.wrap .i64 (k-(1))))),(30,p),(191,q),(192,(Aa l)),(193,(Aa (IntKind.wrap .i64 (b+(1))))),(194,(Ae (decide (b<l)))),(195,r),(196,i),(32,i),(198,i),(199,(Aa j)),(200,(AV.Bn [AV.agg [Aa c,Aa d,Aa e,Aa f,Aa g,Aa h],Aa a])),(197,(AV.Bn [AV.agg [Aa c,Aa d,Aa e,Aa f,Aa g,Aa h],Aa a])),(201,(AV.agg [Aa c,Aa d,Aa e,Aa f,Aa g,Aa h])),(202,(Aa a)),(33,(AV.ptr 400073 0)),(34,(Aa a)),(203,(Aa a)),(204,(Ae (a==(0)))),(205,(Aa k)),(206,(Aa (IntKind.wrap .i64 (k-(1))))),(207,(Aa (IntKind.wrap .i64 (b+(1)))))],((400073,some ⟨[Aa c,Aa d,Aa e,Aa f,Aa g,Aa h],55⟩)::(400073,some ⟨[Aa (0),Aa (0),Aa (0),Aa (0),Aa (0),Aa (0)],55⟩)::m),400083⟩) else (
N0 ⟨[(2,(Aa j)),(8,(Ae s)),(11,(Aa n)),(12,o),(22,(Aa k)),(30,p),(191,q),(192,(Aa l)),(193,(Aa (IntKind.wrap .i64 (b+(1))))),(194,(Ae (decide (b<l)))),(195,r),(196,i),(32,i),(198,i),(199,(Aa j)),(200,(AV.Bn [AV.agg [Aa c,Aa d,Aa e,Aa f,Aa g,Aa h],Aa a])),(197,(AV.Bn [AV.agg [Aa c,Aa d,Aa e,Aa f,Aa g,Aa h],Aa a])),(201,(AV.agg [Aa c,Aa d,Aa e,Aa f,Aa g,Aa h])),(202,(Aa a)),(33,(AV.ptr 400073 0)),(34,(Aa a)),(203,(Aa a)),(204,(Ae (a==(0)))),(207,(Aa (IntKind.wrap .i64 (b+(1)))))],((400073,some ⟨[Aa c,Aa d,Aa e,Aa f,Aa g,Aa h],55⟩)::(400073,some ⟨[Aa (0),Aa (0),Aa (0),Aa (0),Aa (0),Aa (0)],55⟩)::m),400080⟩)) else (
bif (n==(0)) then (
Bj pg KK.gl m 16 [p,o] fun ad=>
Iv ad fun ae=>
bif ae then (
A8 R m [some (Ae (k==(0)))]) else (
A8 R m [some (Ae false)])) else (
A8 R m [some (Ae false)]))
theorem Afo (a:Int) (b:Bool) (c:Int) (d:AV) (e:Int) (f g:AV) (h i:Int) (m:Mem) (R:AV→Mem→Prop) (N0:St→Prop):W pg KK 219 0 Ti (rX a b c d e f g h i m) (Am1 R N0)=Ag2 a b c d e f g h i m R N0:=by kernel_rfl
theorem Ao8 (R:AV→Mem→Prop) {σ:Type} (I:σ→Prop) (a:σ→Int) (b:σ→Bool) (c:σ→Int) (d:σ→AV) (e:σ→Int) (f g:σ→AV) (h i:σ→Int) (m:σ→Mem) (μ:σ→Nat) (step:∀x,I x→Ag2 (a x) (b x) (c x) (d x) (e x) (f x) (g x) (h x) (i x) (m x) R (fun s'=>∃y,I y∧μ y<μ x∧Bb KK 219 0 s' (rX (a y) (b y) (c y) (d y) (e y) (f y) (g y) (h y) (i y) (m y)))) (x:σ) (hx:I x) {s:St} (hw:Bb KK 219 0 s (rX (a x) (b x) (c x) (d x) (e x) (f x) (g x) (h x) (i x) (m x))):Bu pg KK 219 0 (.loop Ti) s (Adj R):=
 Bu.Eh hw (Bu.loops Dl I (fun x=>rX (a x) (b x) (c x) (d x) (e x) (f x) (g x) (h x) (i x) (m x)) μ (fun x hx=>(Afo (a x) (b x) (c x) (d x) (e x) (f x) (g x) (h x) (i x) (m x) R _).mpr (step x hx)) x hx)
noncomputable def F3 (a g:AV) (h:Int) (i:AV) (R:AV→Mem→Prop):Prop:=
Bj pg KK.gl [] 4 [] fun k=>
Iv k fun j=>
bif (!j) then (
A8 R [] [some (Ae false)]) else (
Ep pg KK.gl [] 69 5 [a,g,Aa h] fun l c=>
Amv l fun c3 m c5=>
Af m fun d=>
Af c5 fun b=>
bif (b !=(0)) then (
A8 R c [some (Ae true)]) else (
Bg (Cn i) fun n=>
Af n fun e=>
bif (decide (e>(60))) then (
A8 R c [some (Ae true)]) else (
Bg (Cn a) fun o=>
Af o fun f=>
bif (f==(0)) then (
A8 R c [some (Ae true)]) else (
Bg (Cn a) fun p=>
Af p fun q=>
Bu pg KK 219 0 (.loop Tb) ⟨[(0,a),(1,g),(2,(Aa h)),(3,i),(8,(Ae false)),(35,(Ae j)),(36,(Ae (!j))),(38,a),(39,g),(40,(Aa h)),(41,(AV.Bn [c3,Aa d,Aa b])),(37,(AV.Bn [c3,Aa d,Aa b])),(42,c3),(43,(Aa d)),(44,(Aa b)),(9,c3),(10,(Aa d)),(11,(Aa b)),(45,(Aa b)),(46,(Ae (b !=(0)))),(47,(Ae false)),(48,i),(49,(Aa e)),(50,(Ae (decide (e>(60))))),(51,(Ae (decide (e>(60))))),(52,(Ae false)),(53,a),(54,(Aa f)),(55,(Ae (f==(0)))),(56,(Ae (f==(0)))),(12,AV.Bp),(57,a),(58,(Aa q)),(59,(Aa (0)))],c,156⟩ (Ag6 R)))))
theorem Ak0 (a b:AV) (c:Int) (d:AV) (R:AV→Mem→Prop) (h:F3 a b c d R):Own pg KK.gl 3 [a,b,Aa c,d] R:=Bc Dl Tryz.func3 (code:=c3) Bf Bf Bf (X:=F3 a b c d R) Bf h
noncomputable def c81:Code:=((Tryz.f81).body).getD .skip
noncomputable def q81 (R:AV→Mem→Prop):A4→St→Prop:=Cr pg Tryz.f81 R
noncomputable def F81 (a:AV) (R:AV→Mem→Prop):Prop:=
iK a fun c=>
bif c then (
A8 R [] [some AV.Bp]) else (
Ia (kT 3 55 6 0 [Aa (0),Aa (0),Aa (0),Aa (0),Aa (0),Aa (0)] []) [] fun d b=>
Ia (app (Ao b) 55 6 48 [Aa (0),Aa (0),Aa (0),Aa (0),Aa (0),Aa (0)] 5 d a) b fun e f=>
A8 R f [some e])
noncomputable def Aqz:Code:=((Tryz.f126).body).getD .skip
noncomputable def Are (R:AV→Mem→Prop):A4→St→Prop:=Cr pg Tryz.f126 R
noncomputable def Arj (a:AV) (R:AV→Mem→Prop):Prop:=
iK a fun c=>
bif c then (
A8 R [] [some AV.Bp]) else (
Ia (kT 3 37 2 0 [AV.sc (.string ⟨#[]⟩),AV.Bp] []) [] fun d b=>
Ia (app (Ao b) 37 2 40 [AV.sc (.string ⟨#[]⟩),AV.Bp] 5 d a) b fun e f=>
A8 R f [some e])
noncomputable def Asc:Code:=((Tryz.f127).body).getD .skip
noncomputable def Ar4 (R:AV→Mem→Prop):A4→St→Prop:=Cr pg Tryz.f127 R
noncomputable def Aqx (a:AV) (R:AV→Mem→Prop):Prop:=
iK a fun c=>
bif c then (
A8 R [] [some AV.Bp]) else (
Ia (kT 3 9 1 0 [AV.sc (.string ⟨#[]⟩)] []) [] fun d b=>
Ia (app (Ao b) 9 1 16 [AV.sc (.string ⟨#[]⟩)] 5 d a) b fun e f=>
A8 R f [some e])
noncomputable def xD (a:AV) (b c:Int) (m:Mem) (R:AV→Mem→Prop):Prop:=
Bg (Cn a) fun g=>
Af g fun h=>
Bg (Cv pg (.slice 33 (.tmp 0) (some (.tmp 1)) (some (.tmp 2)) (some (.tmp 3))) 33 [a,Aa b,Aa c,Aa h] (Ao m) 7) fun q=>
bif (b==c) then (
Hv (Nat.ble 13 65) (A8 R m [some a])) else (
Bg (Cn a) fun i=>
Af i fun j=>
Gb (Cv pg (.slice 33 (.tmp 0) none (some (.tmp 1)) none) 33 [a,Aa b] (Cf m (A3 a++(A3 (Aa b)++([])))) 16) fun d d5=>
Gb (Cv pg (.slice 33 (.tmp 0) (some (.tmp 1)) none none) 33 [a,Aa c] (Cf (Ac m d5) (A3 a++(A3 (Aa c)++([])))) 19) fun e d6=>
Gb (app (Cf (Ac (Ac m d5) d6) (A3 d++(A3 e++([])))) 37 2 40 [AV.sc (.string ⟨#[]⟩),AV.Bp] 20 d e) fun f d7=>
Hv (D5 [0,0,3,0,0,24,63,127] [⟨[],[]⟩,⟨[],[]⟩,⟨d5,A3 a++(A3 (Aa b)++([]))⟩,⟨[],[]⟩,⟨[],[]⟩,⟨d6,A3 a++(A3 (Aa c)++([]))⟩,⟨d7,A3 d++(A3 e++([]))⟩,⟨[],[]⟩]) (Bg (Cn f) fun k=>
Af k fun l=>
Bg (Cv pg (.slice 33 (.tmp 0) (some (.tmp 1)) (some (.tmp 2)) none) 33 [f,Aa l,Aa j] (Ao (Ac (Ac (Ac m d5) d6) d7)) 26) fun n=>
Ia (Cv pg (.call ⟨.builtin .clear,#[.tmp 0],#[33]⟩) 0 [n] (Ao (Ac (Ac (Ac m d5) d6) d7)) 27) (Ac (Ac (Ac m d5) d6) d7) fun o p=>
T7 o<|
Hv (Nat.ble 30 65) (A8 R p [some f])))
theorem gU (a:AV) (b c:Int) (m:Mem) (R:AV→Mem→Prop) (h:xD a b c m R):Ep pg KK.gl m 1 49 [a,Aa b,Aa c] R:=oZ Dl Tryz.func49 (code:=((Tryz.f49).body).getD .skip) Bf Bf Bf (X:=xD a b c m R) Bf h
noncomputable def bV (d:AV) (a:Int) (e:AV) (m:Mem) (R:AV→Mem→Prop):Prop:=
Bg (Cv pg (.slice 49 (.tmp 0) (some (.tmp 1)) none none) 49 [d,Aa a] (Ao m) 4) fun v0=>
Bg (Cn e) fun p=>
Af p fun b=>
bif (b==(0)) then (
A8 R m [some d]) else (
Bg (Cn d) fun q=>
Af q fun f=>
bif (a==f) then (
Ia (app (Ao m) 55 6 48 [Aa (0),Aa (0),Aa (0),Aa (0),Aa (0),Aa (0)] 18 d e) m fun r s=>
A8 R s [some r]) else (
Bg (Cv pg (.call ⟨.builtin .cap,#[.tmp 0],#[49]⟩) 3 [d] (Ao m) 20) fun t=>
Af t fun u=>
bif (decide ((IntKind.wrap .i64 (f+b))>u)) then (
Bg (Cv pg (.slice 49 (.tmp 0) none (some (.tmp 1)) none) 49 [d,Aa a] (Ao m) 24) fun v=>
Ia (Cv pg (.call ⟨.builtin .append,#[.tmp 0,.tmp 1],#[49,3]⟩) 49 [v,Aa (IntKind.wrap .i64 ((IntKind.wrap .i64 (f+b))-a))] (Ao m) 30) m fun g i=>
Bg (Cv pg (.slice 49 (.tmp 0) (some (.tmp 1)) none none) 49 [g,Aa a] (Ao i) 34) fun w=>
Ia (Cv pg (.call ⟨.builtin .copy,#[.tmp 0,.tmp 1],#[49,48]⟩) 3 [w,e] (Ao i) 36) i fun x h=>
Af x fun an=>
Gb (Cv pg (.slice 49 (.tmp 0) (some (.tmp 1)) none none) 49 [g,Aa (IntKind.wrap .i64 (a+b))] (Cf h (A3 g++(A3 (Aa (IntKind.wrap .i64 (a+b)))++([])))) 41) fun j d13=>
Gb (Cv pg (.slice 49 (.tmp 0) (some (.tmp 1)) none none) 49 [d,Aa a] (Cf (Ac h d13) (A3 d++(A3 (Aa a)++([])))) 44) fun k d14=>
Gb (Cv pg (.call ⟨.builtin .copy,#[.tmp 0,.tmp 1],#[49,49]⟩) 3 [j,k] (Cf (Ac (Ac h d13) d14) (A3 j++(A3 k++([])))) 45) fun y d15=>
Af y fun ao=>
Hv (D5 [0,0,0,6,15,0,0,96,255] [⟨[],[]⟩,⟨[],[]⟩,⟨[],[]⟩,⟨[],[]⟩,⟨d13,A3 g++(A3 (Aa (IntKind.wrap .i64 (a+b)))++([]))⟩,⟨[],[]⟩,⟨[],[]⟩,⟨d14,A3 d++(A3 (Aa a)++([]))⟩,⟨d15,A3 j++(A3 k++([]))⟩]) (A8 R (Ac (Ac (Ac h d13) d14) d15) [some g])) else (
Bg (Cv pg (.slice 49 (.tmp 0) none (some (.tmp 1)) none) 49 [d,Aa (IntKind.wrap .i64 (f+b))] (Ao m) 26) fun c=>
Bg (Cv pg (.slice 49 (.tmp 0) (some (.tmp 1)) none none) 49 [c,Aa (IntKind.wrap .i64 (a+b))] (Ao m) 33) fun z=>
Bj pg KK.gl m 275 [e,z] fun aa=>
Iv aa fun ab=>
bif (!ab) then (
Gb (Cv pg (.slice 49 (.tmp 0) (some (.tmp 1)) none none) 49 [c,Aa (IntKind.wrap .i64 (a+b))] (Cf m (A3 c++(A3 (Aa (IntKind.wrap .i64 (a+b)))++([])))) 103) fun l d21=>
Gb (Cv pg (.slice 49 (.tmp 0) (some (.tmp 1)) none none) 49 [c,Aa a] (Cf (Ac m d21) (A3 c++(A3 (Aa a)++([])))) 106) fun n d22=>
Gb (Cv pg (.call ⟨.builtin .copy,#[.tmp 0,.tmp 1],#[49,49]⟩) 3 [l,n] (Cf (Ac (Ac m d21) d22) (A3 l++(A3 n++([])))) 107) fun ad d23=>
Af ad fun ap=>
Hv (D5 [0,0,0,6,15,0,0,96,255] [⟨[],[]⟩,⟨[],[]⟩,⟨[],[]⟩,⟨[],[]⟩,⟨d21,A3 c++(A3 (Aa (IntKind.wrap .i64 (a+b)))++([]))⟩,⟨[],[]⟩,⟨[],[]⟩,⟨d22,A3 c++(A3 (Aa a)++([]))⟩,⟨d23,A3 l++(A3 n++([]))⟩]) (Bg (Cv pg (.slice 49 (.tmp 0) (some (.tmp 1)) none none) 49 [c,Aa a] (Ao (Ac (Ac (Ac m d21) d22) d23)) 110) fun ae=>
Ia (Cv pg (.call ⟨.builtin .copy,#[.tmp 0,.tmp 1],#[49,48]⟩) 3 [ae,e] (Ao (Ac (Ac (Ac m d21) d22) d23)) 112) (Ac (Ac (Ac m d21) d22) d23) fun af ag=>
Af af fun aq=>
A8 R ag [some c])) else (
Bg (Cv pg (.slice 49 (.tmp 0) (some (.tmp 1)) none none) 49 [c,Aa f] (Ao m) 101) fun ah=>
Ia (Cv pg (.call ⟨.builtin .copy,#[.tmp 0,.tmp 1],#[49,48]⟩) 3 [ah,e] (Ao m) 103) m fun ai o=>
Af ai fun ar=>
Bg (Cv pg (.slice 49 (.tmp 0) (some (.tmp 1)) none none) 49 [c,Aa a] (Ao o) 106) fun aj=>
Ep pg KK.gl o 108 276 [aj,Aa b] fun ak am=>
T7 ak<|
A8 R am [some c]))))
theorem cA (a:AV) (b:Int) (c:AV) (m:Mem) (R:AV→Mem→Prop) (h:bV a b c m R):Q0 pg KK.gl m 1 219 [a,Aa b,c] R:=T8 Dl Tryz.func219 (code:=((Tryz.f219).body).getD .skip) Bf Bf Bf (X:=bV a b c m R) Bf h
noncomputable def bF (d:AV) (a:Int) (e:AV) (m:Mem) (R:AV→Mem→Prop):Prop:=
Bg (Cv pg (.slice 49 (.tmp 0) (some (.tmp 1)) none none) 49 [d,Aa a] (Ao m) 5) fun v0=>
Bg (Cn e) fun p=>
Af p fun b=>
bif (b==(0)) then (
A8 R m [some d]) else (
Bg (Cn d) fun q=>
Af q fun f=>
bif (a==f) then (
Ia (app (Ao m) 55 6 48 [Aa (0),Aa (0),Aa (0),Aa (0),Aa (0),Aa (0)] 19 d e) m fun r s=>
A8 R s [some r]) else (
Bg (Cv pg (.call ⟨.builtin .cap,#[.tmp 0],#[49]⟩) 3 [d] (Ao m) 21) fun t=>
Af t fun u=>
bif (decide ((IntKind.wrap .i64 (f+b))>u)) then (
Bg (Cv pg (.slice 49 (.tmp 0) none (some (.tmp 1)) none) 49 [d,Aa a] (Ao m) 25) fun v=>
Ia (Cv pg (.call ⟨.builtin .append,#[.tmp 0,.tmp 1],#[49,3]⟩) 49 [v,Aa (IntKind.wrap .i64 ((IntKind.wrap .i64 (f+b))-a))] (Ao m) 31) m fun g i=>
Bg (Cv pg (.slice 49 (.tmp 0) (some (.tmp 1)) none none) 49 [g,Aa a] (Ao i) 35) fun w=>
Ia (Cv pg (.call ⟨.builtin .copy,#[.tmp 0,.tmp 1],#[49,48]⟩) 3 [w,e] (Ao i) 37) i fun x h=>
Af x fun an=>
Gb (Cv pg (.slice 49 (.tmp 0) (some (.tmp 1)) none none) 49 [g,Aa (IntKind.wrap .i64 (a+b))] (Cf h (A3 g++(A3 (Aa (IntKind.wrap .i64 (a+b)))++([])))) 42) fun j d13=>
Gb (Cv pg (.slice 49 (.tmp 0) (some (.tmp 1)) none none) 49 [d,Aa a] (Cf (Ac h d13) (A3 d++(A3 (Aa a)++([])))) 45) fun k d14=>
Gb (Cv pg (.call ⟨.builtin .copy,#[.tmp 0,.tmp 1],#[49,49]⟩) 3 [j,k] (Cf (Ac (Ac h d13) d14) (A3 j++(A3 k++([])))) 46) fun y d15=>
Af y fun ao=>
Hv (D5 [0,0,0,6,15,0,0,96,255] [⟨[],[]⟩,⟨[],[]⟩,⟨[],[]⟩,⟨[],[]⟩,⟨d13,A3 g++(A3 (Aa (IntKind.wrap .i64 (a+b)))++([]))⟩,⟨[],[]⟩,⟨[],[]⟩,⟨d14,A3 d++(A3 (Aa a)++([]))⟩,⟨d15,A3 j++(A3 k++([]))⟩]) (A8 R (Ac (Ac (Ac h d13) d14) d15) [some g])) else (
Bg (Cv pg (.slice 49 (.tmp 0) none (some (.tmp 1)) none) 49 [d,Aa (IntKind.wrap .i64 (f+b))] (Ao m) 27) fun c=>
Bg (Cv pg (.slice 49 (.tmp 0) (some (.tmp 1)) none none) 49 [c,Aa (IntKind.wrap .i64 (a+b))] (Ao m) 34) fun z=>
Bj pg KK.gl m 275 [e,z] fun aa=>
Iv aa fun ab=>
bif (!ab) then (
Gb (Cv pg (.slice 49 (.tmp 0) (some (.tmp 1)) none none) 49 [c,Aa (IntKind.wrap .i64 (a+b))] (Cf m (A3 c++(A3 (Aa (IntKind.wrap .i64 (a+b)))++([])))) 104) fun l d21=>
Gb (Cv pg (.slice 49 (.tmp 0) (some (.tmp 1)) none none) 49 [c,Aa a] (Cf (Ac m d21) (A3 c++(A3 (Aa a)++([])))) 107) fun n d22=>
Gb (Cv pg (.call ⟨.builtin .copy,#[.tmp 0,.tmp 1],#[49,49]⟩) 3 [l,n] (Cf (Ac (Ac m d21) d22) (A3 l++(A3 n++([])))) 108) fun ad d23=>
Af ad fun ap=>
Hv (D5 [0,0,0,6,15,0,0,96,255] [⟨[],[]⟩,⟨[],[]⟩,⟨[],[]⟩,⟨[],[]⟩,⟨d21,A3 c++(A3 (Aa (IntKind.wrap .i64 (a+b)))++([]))⟩,⟨[],[]⟩,⟨[],[]⟩,⟨d22,A3 c++(A3 (Aa a)++([]))⟩,⟨d23,A3 l++(A3 n++([]))⟩]) (Bg (Cv pg (.slice 49 (.tmp 0) (some (.tmp 1)) none none) 49 [c,Aa a] (Ao (Ac (Ac (Ac m d21) d22) d23)) 111) fun ae=>
Ia (Cv pg (.call ⟨.builtin .copy,#[.tmp 0,.tmp 1],#[49,48]⟩) 3 [ae,e] (Ao (Ac (Ac (Ac m d21) d22) d23)) 113) (Ac (Ac (Ac m d21) d22) d23) fun af ag=>
Af af fun aq=>
A8 R ag [some c])) else (
Bg (Cv pg (.slice 49 (.tmp 0) (some (.tmp 1)) none none) 49 [c,Aa f] (Ao m) 102) fun ah=>
Ia (Cv pg (.call ⟨.builtin .copy,#[.tmp 0,.tmp 1],#[49,48]⟩) 3 [ah,e] (Ao m) 104) m fun ai o=>
Af ai fun ar=>
Bg (Cv pg (.slice 49 (.tmp 0) (some (.tmp 1)) none none) 49 [c,Aa a] (Ao o) 107) fun aj=>
Ep pg KK.gl o 109 276 [aj,Aa b] fun ak am=>
T7 ak<|
A8 R am [some c]))))
theorem dD (a:AV) (b:Int) (c:AV) (m:Mem) (R:AV→Mem→Prop) (h:bF a b c m R):Q0 pg KK.gl m 2 219 [a,Aa b,c] R:=T8 Dl Tryz.func219 (code:=((Tryz.f219).body).getD .skip) Bf Bf Bf (X:=bF a b c m R) Bf h
end Go.Proofs.YtmechmjjcgdpdaaGreatDoor
