/- A part. -/
import Derived.Test.YtkdodbfnocdkdaaGreatDoorX1T
set_option linter.unusedVariables false
set_option maxRecDepth 100000
set_option maxHeartbeats 4000000
namespace Go.Proofs.YtkdodbfnocdkdaaGreatDoor
noncomputable def c43:Code:=((Tryz.f43).body).getD .skip
noncomputable def q43 (R:AV→Mem→Prop):A1→St→Prop:=Cm pg Tryz.f43 R
noncomputable def Aoa:Code:=Dy c43 0
noncomputable def Af8 (R:AV→Mem→Prop):A1→St→Prop:=Dz pg KK 39 0 c43 0 (q43 R)
noncomputable def Ar6 (R:AV→Mem→Prop) (N0:St→Prop):A1→St→Prop:=Dw N0 (Af8 R)
def Amj (a:AV) (b c:Int) (d:AV) (e f:Int) (m:Mem):St:=⟨[(0,a),(1,(Aa b)),(6,(Aa c)),(19,d),(20,(Aa e)),(21,(Aa f))],m,100000⟩
noncomputable def Agg (f:AV) (d i:Int) (g:AV) (e b:Int) (m:Mem) (R:AV→Mem→Prop) (N0:St→Prop):Prop:=
bif (decide (b<e)) then (
A4 (De 1 g (Aa b)) fun h=>
A4 (Ek (Al m) h) fun c=>
A2 pg KK.gl m 42 [c] fun j=>
Ag j fun a=>
bif (a !=(0)) then (
As R m [some (Aa a)]) else (
N0 ⟨[(0,f),(1,(Aa d)),(6,(Aa i)),(19,g),(20,(Aa e)),(21,(Aa (IntKind.wrap .i64 (b+(1))))),(22,(Ai (decide (b<e)))),(23,h),(24,c),(9,c),(25,c),(26,(Aa a)),(10,(Aa a)),(27,(Aa a)),(28,(Ai (a !=(0)))),(30,(Aa (IntKind.wrap .i64 (b+(1)))))],m,100074⟩)) else (
bif (decide (d<(0))) then (
As R m [some (Aa (4))]) else (
A4 (Da f) fun k=>
Ag k fun l=>
bif (decide (d≥l)) then (
As R m [some (Aa (4))]) else (
As R m [some (Aa (0))])))
noncomputable def F43 (d:AV) (f a b:Int) (R:AV→Mem→Prop):Prop:=
A2 pg KK.gl ((0,some ⟨[Aa a,Aa b],24⟩)::[]) 64 [AV.agg [Aa a,Aa b]] fun g=>
Ag g fun c=>
bif (c !=(0)) then (
As R ((0,some ⟨[Aa a,Aa b],24⟩)::[]) [some (Aa c)]) else (
A4 (Da d) fun h=>
Ag h fun e=>
bif (decide (e>(24))) then (
As R ((0,some ⟨[Aa a,Aa b],24⟩)::[]) [some (Aa (2))]) else (
A4 (Da d) fun i=>
Ag i fun j=>
Ff pg KK 39 0 (.loop Aoa) ⟨[(0,d),(1,(Aa f)),(2,(AV.agg [Aa a,Aa b])),(5,(AV.ptr 0 0)),(6,(Aa (0))),(11,(AV.agg [Aa a,Aa b])),(12,(Aa c)),(7,(Aa c)),(13,(Aa c)),(14,(Ai (c !=(0)))),(16,d),(17,(Aa e)),(18,(Ai (decide (e>(24))))),(19,d),(20,(Aa j)),(21,(Aa (0)))],((0,some ⟨[Aa a,Aa b],24⟩)::[]),76⟩ (Af8 R)))
noncomputable def c77:Code:=((Tryz.f77).body).getD .skip
noncomputable def q77 (R:AV→Mem→Prop):A1→St→Prop:=Cm pg Tryz.f77 R
noncomputable def Amp:Code:=Dy c77 0
noncomputable def Ae9 (R:AV→Mem→Prop):A1→St→Prop:=Dz pg KK 41 0 c77 0 (q77 R)
noncomputable def Arl (R:AV→Mem→Prop) (N0:St→Prop):A1→St→Prop:=Dw N0 (Ae9 R)
def Ao9 (a:Bool) (b:AV) (c d:Int) (m:Mem):St:=⟨[(2,(Ai a)),(14,b),(15,(Aa c)),(16,(Aa d))],m,100000⟩
noncomputable def Agq (f:Bool) (d:AV) (c b:Int) (m:Mem) (R:AV→Mem→Prop) (N0:St→Prop):Prop:=
bif (decide (b<c)) then (
A4 (De 1 d (Aa b)) fun e=>
A4 (Ek (Al m) e) fun g=>
kR g fun a=>
bif (decide (a≥(65))) then (
bif (decide (a≤(90))) then (
N0 ⟨[(2,(Ai f)),(14,d),(15,(Aa c)),(16,(Aa (IntKind.wrap .i64 (b+(1))))),(17,(Ai (decide (b<c)))),(18,(Aa b)),(19,e),(20,(AV.sc (.int .u8 a))),(3,(Aa b)),(4,(AV.sc (.int .u8 a))),(21,(AV.sc (.int .u8 a))),(22,(Ai (decide (a≥(65))))),(23,(Ai true)),(24,(AV.sc (.int .u8 a))),(25,(Ai (decide (a≤(90))))),(26,(Ai (decide (a≤(90))))),(27,(Ai true)),(28,(AV.Bn [])),(29,(AV.Bn [])),(30,(AV.Bn [])),(31,(AV.Bn [])),(32,(AV.Bn [])),(33,(AV.Bn [])),(34,(AV.Bn [])),(35,(AV.Bn [])),(36,(AV.Bn [])),(37,(AV.Bn [])),(38,(Ai true)),(39,(Ai false)),(40,(Aa (IntKind.wrap .i64 (b+(1)))))],m,100017⟩) else (
bif (decide (b>(0))) then (
bif (decide (a≥(48))) then (
bif (!(decide (a≤(57)))) then (
As R m [some (Ai false)]) else (
N0 ⟨[(2,(Ai f)),(14,d),(15,(Aa c)),(16,(Aa (IntKind.wrap .i64 (b+(1))))),(17,(Ai (decide (b<c)))),(18,(Aa b)),(19,e),(20,(AV.sc (.int .u8 a))),(3,(Aa b)),(4,(AV.sc (.int .u8 a))),(21,(AV.sc (.int .u8 a))),(22,(Ai (decide (a≥(65))))),(23,(Ai true)),(24,(AV.sc (.int .u8 a))),(25,(Ai (decide (a≤(90))))),(26,(Ai (decide (a≤(90))))),(27,(Ai false)),(28,(Aa b)),(29,(Ai (decide (b>(0))))),(30,(Ai true)),(31,(AV.sc (.int .u8 a))),(32,(Ai (decide (a≥(48))))),(33,(Ai (decide (a≥(48))))),(34,(Ai true)),(35,(AV.sc (.int .u8 a))),(36,(Ai (decide (a≤(57))))),(37,(Ai (decide (a≤(57))))),(38,(Ai (decide (a≤(57))))),(39,(Ai (!(decide (a≤(57)))))),(40,(Aa (IntKind.wrap .i64 (b+(1)))))],m,100027⟩)) else (
As R m [some (Ai false)])) else (
As R m [some (Ai false)]))) else (
bif (decide (b>(0))) then (
bif (decide (a≥(48))) then (
bif (!(decide (a≤(57)))) then (
As R m [some (Ai false)]) else (
N0 ⟨[(2,(Ai f)),(14,d),(15,(Aa c)),(16,(Aa (IntKind.wrap .i64 (b+(1))))),(17,(Ai (decide (b<c)))),(18,(Aa b)),(19,e),(20,(AV.sc (.int .u8 a))),(3,(Aa b)),(4,(AV.sc (.int .u8 a))),(21,(AV.sc (.int .u8 a))),(22,(Ai (decide (a≥(65))))),(23,(Ai false)),(24,(AV.Bn [])),(25,(AV.Bn [])),(26,(Ai false)),(27,(Ai false)),(28,(Aa b)),(29,(Ai (decide (b>(0))))),(30,(Ai true)),(31,(AV.sc (.int .u8 a))),(32,(Ai (decide (a≥(48))))),(33,(Ai (decide (a≥(48))))),(34,(Ai true)),(35,(AV.sc (.int .u8 a))),(36,(Ai (decide (a≤(57))))),(37,(Ai (decide (a≤(57))))),(38,(Ai (decide (a≤(57))))),(39,(Ai (!(decide (a≤(57)))))),(40,(Aa (IntKind.wrap .i64 (b+(1)))))],m,100025⟩)) else (
As R m [some (Ai false)])) else (
As R m [some (Ai false)]))) else (
As R m [some (Ai true)])
noncomputable def F77 (a:ByteArray) (R:AV→Mem→Prop):Prop:=
A4 (Ce pg (.call ⟨.builtin .len,#[.tmp 0],#[9]⟩) 3 [AV.sc (.string a)] (Al []) 2) fun e=>
Ag e fun c=>
bif (decide (c<(1))) then (
As R [] [some (Ai false)]) else (
A4 (Ce pg (.call ⟨.builtin .len,#[.tmp 0],#[9]⟩) 3 [AV.sc (.string a)] (Al []) 6) fun f=>
Ag f fun b=>
bif (decide (b>(8))) then (
As R [] [some (Ai false)]) else (
A4 (Ce pg (.convert 9 267 (.tmp 0)) 267 [AV.sc (.string a)] (Al []) 10) fun d=>
A4 (Da d) fun g=>
Ag g fun h=>
Ff pg KK 41 0 (.loop Amp) ⟨[(0,(AV.sc (.string a))),(2,(Ai false)),(5,(AV.sc (.string a))),(6,(Aa c)),(7,(Ai (decide (c<(1))))),(8,(Ai false)),(9,(AV.sc (.string a))),(10,(Aa b)),(11,(Ai (decide (b>(8))))),(12,(Ai (decide (b>(8))))),(13,(AV.sc (.string a))),(14,d),(15,(Aa h)),(16,(Aa (0)))],[],13⟩ (Ae9 R)))
noncomputable def c130:Code:=((Tryz.f130).body).getD .skip
noncomputable def Auy (R:AV→Mem→Prop):A1→St→Prop:=Cm pg Tryz.f130 R
noncomputable def Aqc (a b:Int) (R:AV→Mem→Prop):Prop:=
bif (decide (a<(1))) then (
As R [] [some (Ai true)]) else (
As R [] [some (Ai (decide (a>b)))])
noncomputable def p9:Code:=((Tryz.f57).body).getD .skip
noncomputable def q57 (R:AV→Mem→Prop):A1→St→Prop:=Cm pg Tryz.f57 R
noncomputable def F57 (d:ByteArray) (a e f g b c:Int) (R:AV→Mem→Prop):Prop:=
A2 pg KK.gl ((0,some ⟨[AV.sc (.string d),Aa a,Aa e,Aa f,Aa g,Aa b,Aa c],26⟩)::[]) 77 [AV.sc (.string d)] fun h=>
Ha h fun i=>
bif (!i) then (
As R ((0,some ⟨[AV.sc (.string d),Aa a,Aa e,Aa f,Aa g,Aa b,Aa c],26⟩)::[]) [some (Aa (5))]) else (
bif (decide (a<(0))) then (
As R ((0,some ⟨[AV.sc (.string d),Aa a,Aa e,Aa f,Aa g,Aa b,Aa c],26⟩)::[]) [some (Aa (1))]) else (
bif (decide (a>(3))) then (
As R ((0,some ⟨[AV.sc (.string d),Aa a,Aa e,Aa f,Aa g,Aa b,Aa c],26⟩)::[]) [some (Aa (1))]) else (
A2 pg KK.gl ((0,some ⟨[AV.sc (.string d),Aa a,Aa e,Aa f,Aa g,Aa b,Aa c],26⟩)::[]) 130 [Aa e,Aa (60000)] fun j=>
Ha j fun k=>
bif k then (
As R ((0,some ⟨[AV.sc (.string d),Aa a,Aa e,Aa f,Aa g,Aa b,Aa c],26⟩)::[]) [some (Aa (4))]) else (
A2 pg KK.gl ((0,some ⟨[AV.sc (.string d),Aa a,Aa e,Aa f,Aa g,Aa b,Aa c],26⟩)::[]) 130 [Aa f,Aa (200)] fun l=>
Ha l fun m=>
bif m then (
As R ((0,some ⟨[AV.sc (.string d),Aa a,Aa e,Aa f,Aa g,Aa b,Aa c],26⟩)::[]) [some (Aa (4))]) else (
A2 pg KK.gl ((0,some ⟨[AV.sc (.string d),Aa a,Aa e,Aa f,Aa g,Aa b,Aa c],26⟩)::[]) 130 [Aa g,Aa (200)] fun n=>
Ha n fun o=>
bif o then (
As R ((0,some ⟨[AV.sc (.string d),Aa a,Aa e,Aa f,Aa g,Aa b,Aa c],26⟩)::[]) [some (Aa (4))]) else (
A2 pg KK.gl ((0,some ⟨[AV.sc (.string d),Aa a,Aa e,Aa f,Aa g,Aa b,Aa c],26⟩)::[]) 130 [Aa b,Aa (400)] fun p=>
Ha p fun q=>
bif q then (
As R ((0,some ⟨[AV.sc (.string d),Aa a,Aa e,Aa f,Aa g,Aa b,Aa c],26⟩)::[]) [some (Aa (4))]) else (
A2 pg KK.gl ((0,some ⟨[AV.sc (.string d),Aa a,Aa e,Aa f,Aa g,Aa b,Aa c],26⟩)::[]) 130 [Aa c,Aa (400)] fun r=>
Ha r fun s=>
bif s then (
As R ((0,some ⟨[AV.sc (.string d),Aa a,Aa e,Aa f,Aa g,Aa b,Aa c],26⟩)::[]) [some (Aa (4))]) else (
bif (decide (b>c)) then (
As R ((0,some ⟨[AV.sc (.string d),Aa a,Aa e,Aa f,Aa g,Aa b,Aa c],26⟩)::[]) [some (Aa (3))]) else (
As R ((0,some ⟨[AV.sc (.string d),Aa a,Aa e,Aa f,Aa g,Aa b,Aa c],26⟩)::[]) [some (Aa (0))])))))))))
noncomputable def c146:Code:=((Tryz.f146).body).getD .skip
noncomputable def Arc (R:AV→Mem→Prop):A1→St→Prop:=Cm pg Tryz.f146 R
noncomputable def Ajq:Code:=Dy c146 0
noncomputable def wJ (R:AV→Mem→Prop):A1→St→Prop:=Dz pg KK 19 0 c146 0 (Arc R)
noncomputable def Aqq (R:AV→Mem→Prop) (N0:St→Prop):A1→St→Prop:=Dw N0 (wJ R)
def Akr (a:AV) (b:ByteArray) (c d e:Int) (m:Mem):St:=⟨[(0,a),(1,(AV.sc (.string b))),(4,(Aa c)),(7,(Aa d)),(8,(Aa e))],m,100000⟩
noncomputable def yA (c:AV) (b:ByteArray) (f d a:Int) (m:Mem) (R:AV→Mem→Prop) (N0:St→Prop):Prop:=
bif (decide (a<d)) then (
A4 (De 1 c (Aa a)) fun e=>
A4 (Ek (Al m) e) fun g=>
Cd g fun s4=>
bif ((b).toList==(s4).toList) then (
As R m [some (Aa a)]) else (
N0 ⟨[(0,c),(1,(AV.sc (.string b))),(4,(Aa f)),(7,(Aa d)),(8,(Aa (IntKind.wrap .i64 (a+(1))))),(9,(Ai (decide (a<d)))),(10,(Aa a)),(5,(Aa a)),(11,(AV.sc (.string b))),(12,c),(13,(Aa a)),(14,e),(15,(AV.sc (.string s4))),(16,(Ai ((b).toList==(s4).toList))),(18,(Aa (IntKind.wrap .i64 (a+(1)))))],m,100011⟩)) else (
As R m [some (Aa (-1))])
noncomputable def Ang (a:AV) (b:ByteArray) (R:AV→Mem→Prop):Prop:=
A4 (Da a) fun c=>
Ag c fun d=>
Ff pg KK 19 0 (.loop Ajq) ⟨[(0,a),(1,(AV.sc (.string b))),(4,(Aa (0))),(6,a),(7,(Aa d)),(8,(Aa (0)))],[],4⟩ (wJ R)
noncomputable def c124:Code:=((Tryz.f124).body).getD .skip
noncomputable def Au2 (R:AV→Mem→Prop):A1→St→Prop:=Cm pg Tryz.f124 R
noncomputable def Apu (a:ByteArray) (R:AV→Mem→Prop):Prop:=
A4 (Ce pg (.slice 240 (.tmp 0) none none none) 74 [O4 1] (Al []) 1) fun b=>
A2 pg KK.gl [] 146 [b,AV.sc (.string a)] fun c=>
Ag c fun d=>
As R [] [some (Aa d)]
noncomputable def Apt:Code:=((Tryz.f121).body).getD .skip
noncomputable def At2 (R:AV→Mem→Prop):A1→St→Prop:=Cm pg Tryz.f121 R
noncomputable def An3 (a:ByteArray) (R:AV→Mem→Prop):Prop:=
A2 pg KK.gl [] 77 [AV.sc (.string a)] fun b=>
Ha b fun c=>
bif c then (
A2 pg KK.gl [] 124 [AV.sc (.string a)] fun d=>
Ag d fun e=>
As R [] [some (Ai (decide (e<(0))))]) else (
As R [] [some (Ai false)])
noncomputable def c46:Code:=((Tryz.f46).body).getD .skip
noncomputable def q46 (R:AV→Mem→Prop):A1→St→Prop:=Cm pg Tryz.f46 R
noncomputable def F46 (d:ByteArray) (a b:Int) (c:ByteArray) (R:AV→Mem→Prop):Prop:=
A2 pg KK.gl ((0,some ⟨[AV.sc (.string d),Aa a,Aa b,AV.sc (.string c)],30⟩)::[]) 121 [AV.sc (.string d)] fun e=>
Ha e fun f=>
bif (!f) then (
As R ((0,some ⟨[AV.sc (.string d),Aa a,Aa b,AV.sc (.string c)],30⟩)::[]) [some (Aa (3))]) else (
bif (decide (a<(0))) then (
As R ((0,some ⟨[AV.sc (.string d),Aa a,Aa b,AV.sc (.string c)],30⟩)::[]) [some (Aa (1))]) else (
bif (decide (a>(6))) then (
As R ((0,some ⟨[AV.sc (.string d),Aa a,Aa b,AV.sc (.string c)],30⟩)::[]) [some (Aa (1))]) else (
bif (decide (a>(2))) then (
bif (b !=(0)) then (
As R ((0,some ⟨[AV.sc (.string d),Aa a,Aa b,AV.sc (.string c)],30⟩)::[]) [some (Aa (3))]) else (
A2 pg KK.gl ((0,some ⟨[AV.sc (.string d),Aa a,Aa b,AV.sc (.string c)],30⟩)::[]) 121 [AV.sc (.string c)] fun g=>
Ha g fun h=>
bif (!h) then (
As R ((0,some ⟨[AV.sc (.string d),Aa a,Aa b,AV.sc (.string c)],30⟩)::[]) [some (Aa (3))]) else (
As R ((0,some ⟨[AV.sc (.string d),Aa a,Aa b,AV.sc (.string c)],30⟩)::[]) [some (Aa (0))]))) else (
bif (!((c).toList==((⟨#[]⟩:ByteArray)).toList)) then (
As R ((0,some ⟨[AV.sc (.string d),Aa a,Aa b,AV.sc (.string c)],30⟩)::[]) [some (Aa (3))]) else (
bif (decide (b<(0))) then (
As R ((0,some ⟨[AV.sc (.string d),Aa a,Aa b,AV.sc (.string c)],30⟩)::[]) [some (Aa (4))]) else (
A4 (Mg 3 1 (O4 0) (Aa a)) fun i=>
A4 (Ek (Al ((0,some ⟨[AV.sc (.string d),Aa a,Aa b,AV.sc (.string c)],30⟩)::[])) i) fun j=>
Ag j fun k=>
bif (decide (b>k)) then (
As R ((0,some ⟨[AV.sc (.string d),Aa a,Aa b,AV.sc (.string c)],30⟩)::[]) [some (Aa (4))]) else (
As R ((0,some ⟨[AV.sc (.string d),Aa a,Aa b,AV.sc (.string c)],30⟩)::[]) [some (Aa (0))])))))))
noncomputable def Aec:Code:=((Tryz.f118).body).getD .skip
noncomputable def Ar7 (R:AV→Mem→Prop):A1→St→Prop:=Cm pg Tryz.f118 R
noncomputable def Ai8:Code:=Dy Aec 0
noncomputable def sY (R:AV→Mem→Prop):A1→St→Prop:=Dz pg KK 60 0 Aec 0 (Ar7 R)
noncomputable def Aqp (R:AV→Mem→Prop) (N0:St→Prop):A1→St→Prop:=Dw N0 (sY R)
def Aku (a b:Int) (c:Bool) (d:AV) (e f g h i j k l:Int) (m:Mem):St:=⟨[(3,(AV.ptr 0 0)),(4,(Aa a)),(5,(Aa b)),(6,(Ai c)),(13,d),(14,(Aa e)),(15,(Aa f))],((0,some ⟨[Aa g,Aa h,Aa i,Aa j,Aa k,Aa l],135⟩)::m),100000⟩
noncomputable def Aam (r s:Int) (t:Bool) (p:AV) (o n a c d g h i:Int) (m:Mem) (R:AV→Mem→Prop) (N0:St→Prop):Prop:=
bif (decide (n<o)) then (
A4 (De 6 p (Aa n)) fun q=>
A4 (Hj (Al ((0,some ⟨[Aa a,Aa c,Aa d,Aa g,Aa h,Aa i],135⟩)::m)) 6 q) fun u=>
Kx u fun v c5 c6 c7 c8 c9=>
Ag v fun b=>
Ag c5 fun e=>
Ag c6 fun f=>
Ag c7 fun j=>
Ag c8 fun k=>
Ag c9 fun l=>
bif (decide (b>a)) then (
A2 pg KK.gl ((100003,some ⟨[Aa b,Aa e,Aa f,Aa j,Aa k,Aa l],135⟩)::(100003,some ⟨[Aa (0),Aa (0),Aa (0),Aa (0),Aa (0),Aa (0)],135⟩)::(0,some ⟨[Aa a,Aa c,Aa d,Aa g,Aa h,Aa i],135⟩)::m) 178 [AV.agg [Aa e,Aa f],AV.agg [Aa c,Aa d]] fun w=>
I3 w fun Mh kH=>
Ag Mh fun x=>
Ag kH fun y=>
A2 pg KK.gl ((100003,some ⟨[Aa b,Aa e,Aa f,Aa j,Aa k,Aa l],135⟩)::(100003,some ⟨[Aa (0),Aa (0),Aa (0),Aa (0),Aa (0),Aa (0)],135⟩)::(0,some ⟨[Aa a,Aa c,Aa d,Aa g,Aa h,Aa i],135⟩)::m) 177 [AV.agg [Aa x,Aa y]] fun z=>
E7 z fun aa ab=>
Ag aa fun ad=>
Ag ab fun ae=>
A2 pg KK.gl ((100003,some ⟨[Aa b,Aa e,Aa f,Aa j,Aa k,Aa l],135⟩)::(100003,some ⟨[Aa (0),Aa (0),Aa (0),Aa (0),Aa (0),Aa (0)],135⟩)::(0,some ⟨[Aa a,Aa c,Aa d,Aa g,Aa h,Aa i],135⟩)::m) 179 [AV.agg [Aa c,Aa d],AV.agg [Aa e,Aa f]] fun af=>
E7 af fun ag c28=>
Ag ag fun ah=>
Ag c28 fun ak=>
A4 (Ce pg (.binOp .quo 3 (.tmp 0) (.tmp 1) 3) 3 [Aa ah,Aa (IntKind.wrap .i64 (b-a))] (Al ((100003,some ⟨[Aa b,Aa e,Aa f,Aa j,Aa k,Aa l],135⟩)::(100003,some ⟨[Aa (0),Aa (0),Aa (0),Aa (0),Aa (0),Aa (0)],135⟩)::(0,some ⟨[Aa a,Aa c,Aa d,Aa g,Aa h,Aa i],135⟩)::m)) 100235) fun ai=>
Ag ai fun aj=>
As R ((100003,some ⟨[Aa b,Aa e,Aa f,Aa j,Aa k,Aa l],135⟩)::(100003,some ⟨[Aa (0),Aa (0),Aa (0),Aa (0),Aa (0),Aa (0)],135⟩)::(0,some ⟨[Aa a,Aa c,Aa d,Aa g,Aa h,Aa i],135⟩)::m) [some (Aa ad),some (Aa aj),some (Ai (ae==(0)))]) else (
N0 ⟨[(3,(AV.ptr 0 0)),(4,(Aa r)),(5,(Aa s)),(6,(Ai t)),(13,p),(14,(Aa o)),(15,(Aa (IntKind.wrap .i64 (n+(1))))),(16,(Ai (decide (n<o)))),(17,q),(18,(AV.agg [Aa b,Aa e,Aa f,Aa j,Aa k,Aa l])),(8,(AV.ptr 100003 0)),(19,(AV.ptr 100003 0)),(20,(AV.ptr 100003 0)),(21,(Aa b)),(22,(AV.ptr 0 0)),(23,(AV.ptr 0 0)),(24,(Aa a)),(25,(Ai (decide (b>a)))),(59,(Aa (IntKind.wrap .i64 (n+(1)))))],((100003,some ⟨[Aa b,Aa e,Aa f,Aa j,Aa k,Aa l],135⟩)::(100003,some ⟨[Aa (0),Aa (0),Aa (0),Aa (0),Aa (0),Aa (0)],135⟩)::(0,some ⟨[Aa a,Aa c,Aa d,Aa g,Aa h,Aa i],135⟩)::m),100014⟩)) else (
As R ((0,some ⟨[Aa a,Aa c,Aa d,Aa g,Aa h,Aa i],135⟩)::m) [some (Aa (0)),some (Aa (0)),some (Ai false)])
noncomputable def Apv (a:AV) (b c d e f g:Int) (R:AV→Mem→Prop):Prop:=
A4 (Da a) fun h=>
Ag h fun i=>
Ff pg KK 60 0 (.loop Ai8) ⟨[(0,a),(1,(AV.agg [Aa b,Aa c,Aa d,Aa e,Aa f,Aa g])),(3,(AV.ptr 0 0)),(4,(Aa (0))),(5,(Aa (0))),(6,(Ai false)),(13,a),(14,(Aa i)),(15,(Aa (0)))],((0,some ⟨[Aa b,Aa c,Aa d,Aa e,Aa f,Aa g],135⟩)::[]),7⟩ (sY R)
noncomputable def c44:Code:=((Tryz.f44).body).getD .skip
noncomputable def q44 (R:AV→Mem→Prop):A1→St→Prop:=Cm pg Tryz.f44 R
noncomputable def Vu:Code:=Dy c44 0
noncomputable def Afw (R:AV→Mem→Prop):A1→St→Prop:=Dz pg KK 138 0 c44 0 (q44 R)
noncomputable def jS (R:AV→Mem→Prop) (N0:St→Prop):A1→St→Prop:=Dw N0 (Afw R)
def k9 (a:AV) (b c d:Int) (e:Bool) (f:Int) (g:ByteArray) (h i j k l n o p q r s t:Int) (u:AV) (v:ByteArray) (m:Mem):St:=⟨[(7,(AV.ptr 1 0)),(8,a),(9,(Aa b)),(12,(AV.ptr 209 0)),(15,(Aa c)),(16,(Aa d)),(17,(Ai e)),(18,(AV.ptr 356 0)),(19,(AV.fn 119 [AV.ptr 356 0,AV.ptr 0 0])),(20,(Aa f))],((1,some ⟨[AV.sc (.string g),Aa h,Aa i,Aa j,Aa k,Aa l,Aa n],26⟩)::(209,some ⟨[Aa o,Aa p,Aa q,Aa r,Aa s,Aa t],135⟩)::(356,some ⟨[u],147⟩)::(0,some ⟨[AV.sc (.string v)],9⟩)::m),100000⟩
noncomputable def Ae6:Code:=Dy Vu 0
noncomputable def jZ (R:AV→Mem→Prop) (N0:St→Prop):A1→St→Prop:=Dz pg KK 138 0 Vu 0 (jS R N0)
noncomputable def Am5 (R:AV→Mem→Prop) (N0 N1:St→Prop):A1→St→Prop:=Dw N1 (jZ R N0)
def Ad7 (a:AV) (b c d:Int) (e:Bool) (f:Int) (g:AV) (h:Int) (i:ByteArray) (j k l n o p q r s t u v:Int) (w:AV) (x:ByteArray) (m:Mem):St:=⟨[(7,(AV.ptr 1 0)),(8,a),(9,(Aa b)),(12,(AV.ptr 209 0)),(15,(Aa c)),(16,(Aa d)),(17,(Ai e)),(18,(AV.ptr 356 0)),(19,(AV.fn 119 [AV.ptr 356 0,AV.ptr 0 0])),(20,(Aa f)),(76,g),(77,(Aa h))],((1,some ⟨[AV.sc (.string i),Aa j,Aa k,Aa l,Aa n,Aa o,Aa p],26⟩)::(209,some ⟨[Aa q,Aa r,Aa s,Aa t,Aa u,Aa v],135⟩)::(356,some ⟨[w],147⟩)::(0,some ⟨[AV.sc (.string x)],9⟩)::m),200000⟩
noncomputable def Ac7:Code:=Dy Vu 1
noncomputable def mC (R:AV→Mem→Prop) (N0:St→Prop):A1→St→Prop:=Dz pg KK 138 0 Vu 1 (jS R N0)
noncomputable def Al7 (R:AV→Mem→Prop) (N0 N1:St→Prop):A1→St→Prop:=Dw N1 (mC R N0)
def Ab7 (a:AV) (b c d:Int) (e:Bool) (f:Int) (g:AV) (h:Int) (i:ByteArray) (j k l n o p q r s t u v:Int) (w:AV) (x:ByteArray) (m:Mem):St:=⟨[(7,(AV.ptr 1 0)),(8,a),(9,(Aa b)),(12,(AV.ptr 209 0)),(15,(Aa c)),(16,(Aa d)),(17,(Ai e)),(18,(AV.ptr 356 0)),(19,(AV.fn 119 [AV.ptr 356 0,AV.ptr 0 0])),(20,(Aa f)),(102,g),(103,(Aa h))],((1,some ⟨[AV.sc (.string i),Aa j,Aa k,Aa l,Aa n,Aa o,Aa p],26⟩)::(209,some ⟨[Aa q,Aa r,Aa s,Aa t,Aa u,Aa v],135⟩)::(356,some ⟨[w],147⟩)::(0,some ⟨[AV.sc (.string x)],9⟩)::m),300000⟩
noncomputable def Acv:Code:=Dy Vu 2
noncomputable def k8 (R:AV→Mem→Prop) (N0:St→Prop):A1→St→Prop:=Dz pg KK 138 0 Vu 2 (jS R N0)
noncomputable def Amw (R:AV→Mem→Prop) (N0 N1:St→Prop):A1→St→Prop:=Dw N1 (k8 R N0)
def Aby (a:AV) (b c d:Int) (e:Bool) (f:Int) (g:AV) (h:Int) (i:ByteArray) (j k l n o p q r s t u v:Int) (w:AV) (x:ByteArray) (m:Mem):St:=⟨[(7,(AV.ptr 1 0)),(8,a),(9,(Aa b)),(12,(AV.ptr 209 0)),(15,(Aa c)),(16,(Aa d)),(17,(Ai e)),(18,(AV.ptr 356 0)),(19,(AV.fn 119 [AV.ptr 356 0,AV.ptr 0 0])),(20,(Aa f)),(128,g),(129,(Aa h))],((1,some ⟨[AV.sc (.string i),Aa j,Aa k,Aa l,Aa n,Aa o,Aa p],26⟩)::(209,some ⟨[Aa q,Aa r,Aa s,Aa t,Aa u,Aa v],135⟩)::(356,some ⟨[w],147⟩)::(0,some ⟨[AV.sc (.string x)],9⟩)::m),400000⟩
noncomputable def Agj (r:AV) (s t u:Int) (v:Bool) (a:Int) (d:ByteArray) (e f g h i j k l n b o p:Int) (c:AV) (q:ByteArray) (m:Mem) (R:AV→Mem→Prop) (N0:St→Prop):Prop:=
bif (decide (a≤(3))) then (
A4 (Ce pg (.build 237 #[(0,.tmp 0),(1,.tmp 1)]) 237 [Aa (IntKind.wrap .i64 (b+(IntKind.wrap .i64 ((1000)*a)))),Aa (IntKind.wrap .i64 (b-(IntKind.wrap .i64 ((1000)*a))))] (Al ((1,some ⟨[AV.sc (.string d),Aa e,Aa f,Aa g,Aa h,Aa i,Aa j],26⟩)::(209,some ⟨[Aa k,Aa l,Aa n,Aa b,Aa o,Aa p],135⟩)::(356,some ⟨[c],147⟩)::(0,some ⟨[AV.sc (.string q)],9⟩)::m)) 100014) fun w=>
Ff pg KK 138 0 (.loop Ae6) ⟨[(7,(AV.ptr 1 0)),(8,r),(9,(Aa s)),(12,(AV.ptr 209 0)),(15,(Aa t)),(16,(Aa u)),(17,(Ai v)),(18,(AV.ptr 356 0)),(19,(AV.fn 119 [AV.ptr 356 0,AV.ptr 0 0])),(20,(Aa a)),(60,(Aa a)),(61,(Ai (decide (a≤(3))))),(64,(AV.ptr 209 0)),(65,(AV.ptr 209 3)),(66,(Aa b)),(67,(Aa a)),(68,(Aa (IntKind.wrap .i64 ((1000)*a)))),(69,(Aa (IntKind.wrap .i64 (b+(IntKind.wrap .i64 ((1000)*a)))))),(70,(AV.ptr 209 0)),(71,(AV.ptr 209 3)),(72,(Aa b)),(73,(Aa a)),(74,(Aa (IntKind.wrap .i64 ((1000)*a)))),(75,(Aa (IntKind.wrap .i64 (b-(IntKind.wrap .i64 ((1000)*a)))))),(76,w),(77,(Aa (0)))],((1,some ⟨[AV.sc (.string d),Aa e,Aa f,Aa g,Aa h,Aa i,Aa j],26⟩)::(209,some ⟨[Aa k,Aa l,Aa n,Aa b,Aa o,Aa p],135⟩)::(356,some ⟨[c],147⟩)::(0,some ⟨[AV.sc (.string q)],9⟩)::m),100016⟩ (jZ R N0)) else (
As R ((1,some ⟨[AV.sc (.string d),Aa e,Aa f,Aa g,Aa h,Aa i,Aa j],26⟩)::(209,some ⟨[Aa k,Aa l,Aa n,Aa b,Aa o,Aa p],135⟩)::(356,some ⟨[c],147⟩)::(0,some ⟨[AV.sc (.string q)],9⟩)::m) [some c,some (Aa (0))])
noncomputable def l5 (w:AV) (x y e:Int) (f:Bool) (b:Int) (v:AV) (c:Int) (g:ByteArray) (h d i j k l n o p q r s:Int) (t:AV) (u:ByteArray) (m:Mem) (R:AV→Mem→Prop) (N0 N1:St→Prop):Prop:=
bif (decide (c<(2))) then (
A4 (Ce pg (.index 237 (.tmp 0) (.tmp 1)) 3 [v,Aa c] (Al ((1,some ⟨[AV.sc (.string g),Aa h,Aa d,Aa i,Aa j,Aa k,Aa l],26⟩)::(209,some ⟨[Aa n,Aa o,Aa p,Aa q,Aa r,Aa s],135⟩)::(356,some ⟨[t],147⟩)::(0,some ⟨[AV.sc (.string u)],9⟩)::m)) 200001) fun z=>
Ag z fun a=>
bif (decide (a≥(0))) then (
bif (decide (a≤d)) then (
C1 pg KK.gl ((1,some ⟨[AV.sc (.string g),Aa h,Aa d,Aa i,Aa j,Aa k,Aa l],26⟩)::(209,some ⟨[Aa n,Aa o,Aa p,Aa q,Aa r,Aa s],135⟩)::(356,some ⟨[t],147⟩)::(0,some ⟨[AV.sc (.string u)],9⟩)::m) 200013 119 [Aa (0),Aa a,AV.ptr 356 0,AV.ptr 0 0] fun aa ab=>
Rr aa<|
N1 ⟨[(7,(AV.ptr 1 0)),(8,w),(9,(Aa x)),(12,(AV.ptr 209 0)),(15,(Aa y)),(16,(Aa e)),(17,(Ai f)),(18,(AV.ptr 356 0)),(19,(AV.fn 119 [AV.ptr 356 0,AV.ptr 0 0])),(20,(Aa b)),(76,v),(77,(Aa (IntKind.wrap .i64 (c+(1))))),(78,(Ai (decide (c<(2))))),(79,(Aa a)),(22,(Aa a)),(80,(Aa a)),(81,(Ai (decide (a≥(0))))),(82,(Ai true)),(83,(Aa a)),(84,(AV.ptr 1 2)),(85,(Aa d)),(86,(Ai (decide (a≤d)))),(87,(Ai (decide (a≤d)))),(88,(AV.fn 119 [AV.ptr 356 0,AV.ptr 0 0])),(89,(Aa a)),(90,(AV.Bn [])),(91,(Aa (IntKind.wrap .i64 (c+(1)))))],ab,200079⟩) else (
N1 ⟨[(7,(AV.ptr 1 0)),(8,w),(9,(Aa x)),(12,(AV.ptr 209 0)),(15,(Aa y)),(16,(Aa e)),(17,(Ai f)),(18,(AV.ptr 356 0)),(19,(AV.fn 119 [AV.ptr 356 0,AV.ptr 0 0])),(20,(Aa b)),(76,v),(77,(Aa (IntKind.wrap .i64 (c+(1))))),(78,(Ai (decide (c<(2))))),(79,(Aa a)),(22,(Aa a)),(80,(Aa a)),(81,(Ai (decide (a≥(0))))),(82,(Ai true)),(83,(Aa a)),(84,(AV.ptr 1 2)),(85,(Aa d)),(86,(Ai (decide (a≤d)))),(87,(Ai (decide (a≤d)))),(91,(Aa (IntKind.wrap .i64 (c+(1)))))],((1,some ⟨[AV.sc (.string g),Aa h,Aa d,Aa i,Aa j,Aa k,Aa l],26⟩)::(209,some ⟨[Aa n,Aa o,Aa p,Aa q,Aa r,Aa s],135⟩)::(356,some ⟨[t],147⟩)::(0,some ⟨[AV.sc (.string u)],9⟩)::m),200013⟩)) else (
N1 ⟨[(7,(AV.ptr 1 0)),(8,w),(9,(Aa x)),(12,(AV.ptr 209 0)),(15,(Aa y)),(16,(Aa e)),(17,(Ai f)),(18,(AV.ptr 356 0)),(19,(AV.fn 119 [AV.ptr 356 0,AV.ptr 0 0])),(20,(Aa b)),(76,v),(77,(Aa (IntKind.wrap .i64 (c+(1))))),(78,(Ai (decide (c<(2))))),(79,(Aa a)),(22,(Aa a)),(80,(Aa a)),(81,(Ai (decide (a≥(0))))),(82,(Ai false)),(83,(AV.Bn [])),(84,(AV.Bn [])),(85,(AV.Bn [])),(86,(AV.Bn [])),(87,(Ai false)),(91,(Aa (IntKind.wrap .i64 (c+(1)))))],((1,some ⟨[AV.sc (.string g),Aa h,Aa d,Aa i,Aa j,Aa k,Aa l],26⟩)::(209,some ⟨[Aa n,Aa o,Aa p,Aa q,Aa r,Aa s],135⟩)::(356,some ⟨[t],147⟩)::(0,some ⟨[AV.sc (.string u)],9⟩)::m),200009⟩)) else (
bif (!f) then (
N0 ⟨[(7,(AV.ptr 1 0)),(8,w),(9,(Aa x)),(12,(AV.ptr 209 0)),(15,(Aa y)),(16,(Aa e)),(17,(Ai f)),(18,(AV.ptr 356 0)),(19,(AV.fn 119 [AV.ptr 356 0,AV.ptr 0 0])),(20,(Aa (IntKind.wrap .i64 (b+(1))))),(76,v),(77,(Aa c)),(78,(Ai (decide (c<(2))))),(92,(Ai f)),(93,(Ai (!f))),(62,(Aa b)),(63,(Aa (IntKind.wrap .i64 (b+(1)))))],((1,some ⟨[AV.sc (.string g),Aa h,Aa d,Aa i,Aa j,Aa k,Aa l],26⟩)::(209,some ⟨[Aa n,Aa o,Aa p,Aa q,Aa r,Aa s],135⟩)::(356,some ⟨[t],147⟩)::(0,some ⟨[AV.sc (.string u)],9⟩)::m),200006⟩) else (
A4 (Ce pg (.build 237 #[(0,.tmp 0),(1,.tmp 1)]) 237 [Aa (IntKind.wrap .i64 (e+(IntKind.wrap .i64 ((15)*b)))),Aa (IntKind.wrap .i64 (e-(IntKind.wrap .i64 ((15)*b))))] (Al ((1,some ⟨[AV.sc (.string g),Aa h,Aa d,Aa i,Aa j,Aa k,Aa l],26⟩)::(209,some ⟨[Aa n,Aa o,Aa p,Aa q,Aa r,Aa s],135⟩)::(356,some ⟨[t],147⟩)::(0,some ⟨[AV.sc (.string u)],9⟩)::m)) 200011) fun ad=>
Ff pg KK 138 0 (.loop Ac7) ⟨[(7,(AV.ptr 1 0)),(8,w),(9,(Aa x)),(12,(AV.ptr 209 0)),(15,(Aa y)),(16,(Aa e)),(17,(Ai f)),(18,(AV.ptr 356 0)),(19,(AV.fn 119 [AV.ptr 356 0,AV.ptr 0 0])),(20,(Aa b)),(76,v),(77,(Aa c)),(78,(Ai (decide (c<(2))))),(92,(Ai f)),(93,(Ai (!f))),(94,(Aa e)),(95,(Aa b)),(96,(Aa (IntKind.wrap .i64 ((15)*b)))),(97,(Aa (IntKind.wrap .i64 (e+(IntKind.wrap .i64 ((15)*b)))))),(98,(Aa e)),(99,(Aa b)),(100,(Aa (IntKind.wrap .i64 ((15)*b)))),(101,(Aa (IntKind.wrap .i64 (e-(IntKind.wrap .i64 ((15)*b)))))),(102,ad),(103,(Aa (0)))],((1,some ⟨[AV.sc (.string g),Aa h,Aa d,Aa i,Aa j,Aa k,Aa l],26⟩)::(209,some ⟨[Aa n,Aa o,Aa p,Aa q,Aa r,Aa s],135⟩)::(356,some ⟨[t],147⟩)::(0,some ⟨[AV.sc (.string u)],9⟩)::m),200013⟩ (mC R N0)))
noncomputable def mG (v:AV) (w f x:Int) (y:Bool) (e:Int) (u:AV) (b:Int) (g:ByteArray) (h i j k c d l n o p q r:Int) (s:AV) (t:ByteArray) (m:Mem) (R:AV→Mem→Prop) (N0 N1:St→Prop):Prop:=
bif (decide (b<(2))) then (
A4 (Ce pg (.index 237 (.tmp 0) (.tmp 1)) 3 [u,Aa b] (Al ((1,some ⟨[AV.sc (.string g),Aa h,Aa i,Aa j,Aa k,Aa c,Aa d],26⟩)::(209,some ⟨[Aa l,Aa n,Aa o,Aa p,Aa q,Aa r],135⟩)::(356,some ⟨[s],147⟩)::(0,some ⟨[AV.sc (.string t)],9⟩)::m)) 300001) fun z=>
Ag z fun a=>
bif (decide (a≥c)) then (
bif (decide (a≤d)) then (
C1 pg KK.gl ((1,some ⟨[AV.sc (.string g),Aa h,Aa i,Aa j,Aa k,Aa c,Aa d],26⟩)::(209,some ⟨[Aa l,Aa n,Aa o,Aa p,Aa q,Aa r],135⟩)::(356,some ⟨[s],147⟩)::(0,some ⟨[AV.sc (.string t)],9⟩)::m) 300015 119 [Aa (2),Aa a,AV.ptr 356 0,AV.ptr 0 0] fun aa ab=>
Rr aa<|
N1 ⟨[(7,(AV.ptr 1 0)),(8,v),(9,(Aa w)),(12,(AV.ptr 209 0)),(15,(Aa f)),(16,(Aa x)),(17,(Ai y)),(18,(AV.ptr 356 0)),(19,(AV.fn 119 [AV.ptr 356 0,AV.ptr 0 0])),(20,(Aa e)),(102,u),(103,(Aa (IntKind.wrap .i64 (b+(1))))),(104,(Ai (decide (b<(2))))),(105,(Aa a)),(24,(Aa a)),(106,(Aa a)),(107,(AV.ptr 1 5)),(108,(Aa c)),(109,(Ai (decide (a≥c)))),(110,(Ai true)),(111,(Aa a)),(112,(AV.ptr 1 6)),(113,(Aa d)),(114,(Ai (decide (a≤d)))),(115,(Ai (decide (a≤d)))),(116,(AV.fn 119 [AV.ptr 356 0,AV.ptr 0 0])),(117,(Aa a)),(118,(AV.Bn [])),(119,(Aa (IntKind.wrap .i64 (b+(1)))))],ab,300081⟩) else (
N1 ⟨[(7,(AV.ptr 1 0)),(8,v),(9,(Aa w)),(12,(AV.ptr 209 0)),(15,(Aa f)),(16,(Aa x)),(17,(Ai y)),(18,(AV.ptr 356 0)),(19,(AV.fn 119 [AV.ptr 356 0,AV.ptr 0 0])),(20,(Aa e)),(102,u),(103,(Aa (IntKind.wrap .i64 (b+(1))))),(104,(Ai (decide (b<(2))))),(105,(Aa a)),(24,(Aa a)),(106,(Aa a)),(107,(AV.ptr 1 5)),(108,(Aa c)),(109,(Ai (decide (a≥c)))),(110,(Ai true)),(111,(Aa a)),(112,(AV.ptr 1 6)),(113,(Aa d)),(114,(Ai (decide (a≤d)))),(115,(Ai (decide (a≤d)))),(119,(Aa (IntKind.wrap .i64 (b+(1)))))],((1,some ⟨[AV.sc (.string g),Aa h,Aa i,Aa j,Aa k,Aa c,Aa d],26⟩)::(209,some ⟨[Aa l,Aa n,Aa o,Aa p,Aa q,Aa r],135⟩)::(356,some ⟨[s],147⟩)::(0,some ⟨[AV.sc (.string t)],9⟩)::m),300015⟩)) else (
N1 ⟨[(7,(AV.ptr 1 0)),(8,v),(9,(Aa w)),(12,(AV.ptr 209 0)),(15,(Aa f)),(16,(Aa x)),(17,(Ai y)),(18,(AV.ptr 356 0)),(19,(AV.fn 119 [AV.ptr 356 0,AV.ptr 0 0])),(20,(Aa e)),(102,u),(103,(Aa (IntKind.wrap .i64 (b+(1))))),(104,(Ai (decide (b<(2))))),(105,(Aa a)),(24,(Aa a)),(106,(Aa a)),(107,(AV.ptr 1 5)),(108,(Aa c)),(109,(Ai (decide (a≥c)))),(110,(Ai false)),(111,(AV.Bn [])),(112,(AV.Bn [])),(113,(AV.Bn [])),(114,(AV.Bn [])),(115,(Ai false)),(119,(Aa (IntKind.wrap .i64 (b+(1)))))],((1,some ⟨[AV.sc (.string g),Aa h,Aa i,Aa j,Aa k,Aa c,Aa d],26⟩)::(209,some ⟨[Aa l,Aa n,Aa o,Aa p,Aa q,Aa r],135⟩)::(356,some ⟨[s],147⟩)::(0,some ⟨[AV.sc (.string t)],9⟩)::m),300011⟩)) else (
A4 (Ce pg (.build 237 #[(0,.tmp 0),(1,.tmp 1)]) 237 [Aa (IntKind.wrap .i64 (f+(IntKind.wrap .i64 ((171)*e)))),Aa (IntKind.wrap .i64 (f-(IntKind.wrap .i64 ((171)*e))))] (Al ((1,some ⟨[AV.sc (.string g),Aa h,Aa i,Aa j,Aa k,Aa c,Aa d],26⟩)::(209,some ⟨[Aa l,Aa n,Aa o,Aa p,Aa q,Aa r],135⟩)::(356,some ⟨[s],147⟩)::(0,some ⟨[AV.sc (.string t)],9⟩)::m)) 300009) fun ad=>
Ff pg KK 138 0 (.loop Acv) ⟨[(7,(AV.ptr 1 0)),(8,v),(9,(Aa w)),(12,(AV.ptr 209 0)),(15,(Aa f)),(16,(Aa x)),(17,(Ai y)),(18,(AV.ptr 356 0)),(19,(AV.fn 119 [AV.ptr 356 0,AV.ptr 0 0])),(20,(Aa e)),(102,u),(103,(Aa b)),(104,(Ai (decide (b<(2))))),(120,(Aa f)),(121,(Aa e)),(122,(Aa (IntKind.wrap .i64 ((171)*e)))),(123,(Aa (IntKind.wrap .i64 (f+(IntKind.wrap .i64 ((171)*e)))))),(124,(Aa f)),(125,(Aa e)),(126,(Aa (IntKind.wrap .i64 ((171)*e)))),(127,(Aa (IntKind.wrap .i64 (f-(IntKind.wrap .i64 ((171)*e)))))),(128,ad),(129,(Aa (0)))],((1,some ⟨[AV.sc (.string g),Aa h,Aa i,Aa j,Aa k,Aa c,Aa d],26⟩)::(209,some ⟨[Aa l,Aa n,Aa o,Aa p,Aa q,Aa r],135⟩)::(356,some ⟨[s],147⟩)::(0,some ⟨[AV.sc (.string t)],9⟩)::m),300011⟩ (k8 R N0))
noncomputable def mB (u:AV) (v w x:Int) (y:Bool) (b:Int) (t:AV) (a:Int) (c:ByteArray) (d e f g h i j k l n o p:Int) (q:AV) (r:ByteArray) (m:Mem) (R:AV→Mem→Prop) (N0 N1:St→Prop):Prop:=
bif (decide (a<(2))) then (
A4 (Ce pg (.index 237 (.tmp 0) (.tmp 1)) 3 [t,Aa a] (Al ((1,some ⟨[AV.sc (.string c),Aa d,Aa e,Aa f,Aa g,Aa h,Aa i],26⟩)::(209,some ⟨[Aa j,Aa k,Aa l,Aa n,Aa o,Aa p],135⟩)::(356,some ⟨[q],147⟩)::(0,some ⟨[AV.sc (.string r)],9⟩)::m)) 400001) fun aa=>
Ag aa fun s=>
A2 pg KK.gl ((1,some ⟨[AV.sc (.string c),Aa d,Aa e,Aa f,Aa g,Aa h,Aa i],26⟩)::(209,some ⟨[Aa j,Aa k,Aa l,Aa n,Aa o,Aa p],135⟩)::(356,some ⟨[q],147⟩)::(0,some ⟨[AV.sc (.string r)],9⟩)::m) 120 [Aa s] fun ab=>
Ag ab fun z=>
C1 pg KK.gl ((1,some ⟨[AV.sc (.string c),Aa d,Aa e,Aa f,Aa g,Aa h,Aa i],26⟩)::(209,some ⟨[Aa j,Aa k,Aa l,Aa n,Aa o,Aa p],135⟩)::(356,some ⟨[q],147⟩)::(0,some ⟨[AV.sc (.string r)],9⟩)::m) 400069 119 [Aa (1),Aa z,AV.ptr 356 0,AV.ptr 0 0] fun ad ae=>
Rr ad<|
N1 ⟨[(7,(AV.ptr 1 0)),(8,u),(9,(Aa v)),(12,(AV.ptr 209 0)),(15,(Aa w)),(16,(Aa x)),(17,(Ai y)),(18,(AV.ptr 356 0)),(19,(AV.fn 119 [AV.ptr 356 0,AV.ptr 0 0])),(20,(Aa b)),(128,t),(129,(Aa (IntKind.wrap .i64 (a+(1))))),(130,(Ai (decide (a<(2))))),(131,(Aa s)),(26,(Aa s)),(132,(AV.fn 119 [AV.ptr 356 0,AV.ptr 0 0])),(133,(Aa s)),(134,(Aa z)),(135,(AV.Bn [])),(136,(Aa (IntKind.wrap .i64 (a+(1)))))],ae,400135⟩) else (
N0 ⟨[(7,(AV.ptr 1 0)),(8,u),(9,(Aa v)),(12,(AV.ptr 209 0)),(15,(Aa w)),(16,(Aa x)),(17,(Ai y)),(18,(AV.ptr 356 0)),(19,(AV.fn 119 [AV.ptr 356 0,AV.ptr 0 0])),(20,(Aa (IntKind.wrap .i64 (b+(1))))),(128,t),(129,(Aa a)),(130,(Ai (decide (a<(2))))),(62,(Aa b)),(63,(Aa (IntKind.wrap .i64 (b+(1)))))],((1,some ⟨[AV.sc (.string c),Aa d,Aa e,Aa f,Aa g,Aa h,Aa i],26⟩)::(209,some ⟨[Aa j,Aa k,Aa l,Aa n,Aa o,Aa p],135⟩)::(356,some ⟨[q],147⟩)::(0,some ⟨[AV.sc (.string r)],9⟩)::m),400004⟩)
noncomputable def F44 (a:ByteArray) (p:AV) (w:Int) (b:ByteArray) (c d e f g h:Int) (R:AV→Mem→Prop):Prop:=
A2 pg KK.gl ((1,some ⟨[AV.sc (.string b),Aa c,Aa d,Aa e,Aa f,Aa g,Aa h],26⟩)::(0,some ⟨[AV.sc (.string a)],9⟩)::[]) 42 [p] fun y=>
Ag y fun q=>
bif (q !=(0)) then (
As R ((1,some ⟨[AV.sc (.string b),Aa c,Aa d,Aa e,Aa f,Aa g,Aa h],26⟩)::(0,some ⟨[AV.sc (.string a)],9⟩)::[]) [some AV.Bg,some (Aa q)]) else (
A2 pg KK.gl ((1,some ⟨[AV.sc (.string b),Aa c,Aa d,Aa e,Aa f,Aa g,Aa h],26⟩)::(0,some ⟨[AV.sc (.string a)],9⟩)::[]) 57 [AV.agg [AV.sc (.string b),Aa c,Aa d,Aa e,Aa f,Aa g,Aa h]] fun z=>
Ag z fun r=>
bif (r !=(0)) then (
As R ((1,some ⟨[AV.sc (.string b),Aa c,Aa d,Aa e,Aa f,Aa g,Aa h],26⟩)::(0,some ⟨[AV.sc (.string a)],9⟩)::[]) [some AV.Bg,some (Aa r)]) else (
A2 pg KK.gl ((1,some ⟨[AV.sc (.string b),Aa c,Aa d,Aa e,Aa f,Aa g,Aa h],26⟩)::(0,some ⟨[AV.sc (.string a)],9⟩)::[]) 60 [p,Aa w] fun v4=>
E7 v4 fun c5 c6=>
Kx c5 fun c7 c8 c9 O2 Kj c12=>
Ag c7 fun i=>
Ag c8 fun j=>
Ag c9 fun k=>
Ag O2 fun l=>
Ag Kj fun m=>
Ag c12 fun n=>
Ag c6 fun o=>
bif (o !=(0)) then (
As R ((209,some ⟨[Aa i,Aa j,Aa k,Aa l,Aa m,Aa n],135⟩)::(209,some ⟨[Aa (0),Aa (0),Aa (0),Aa (0),Aa (0),Aa (0)],135⟩)::(1,some ⟨[AV.sc (.string b),Aa c,Aa d,Aa e,Aa f,Aa g,Aa h],26⟩)::(0,some ⟨[AV.sc (.string a)],9⟩)::[]) [some AV.Bg,some (Aa o)]) else (
A4 (Mb [AV.sc (.string ⟨#[]⟩),Aa (0),Aa (0),AV.sc (.string ⟨#[]⟩)] [(0,1),(1,1),(2,1),(3,1)] [(0,(AV.sc (.string a)))]) fun x=>
A2 pg KK.gl ((209,some ⟨[Aa i,Aa j,Aa k,Aa l,Aa m,Aa n],135⟩)::(209,some ⟨[Aa (0),Aa (0),Aa (0),Aa (0),Aa (0),Aa (0)],135⟩)::(1,some ⟨[AV.sc (.string b),Aa c,Aa d,Aa e,Aa f,Aa g,Aa h],26⟩)::(0,some ⟨[AV.sc (.string a)],9⟩)::[]) 46 [x] fun aa=>
Ag aa fun s=>
bif (s !=(0)) then (
As R ((209,some ⟨[Aa i,Aa j,Aa k,Aa l,Aa m,Aa n],135⟩)::(209,some ⟨[Aa (0),Aa (0),Aa (0),Aa (0),Aa (0),Aa (0)],135⟩)::(1,some ⟨[AV.sc (.string b),Aa c,Aa d,Aa e,Aa f,Aa g,Aa h],26⟩)::(0,some ⟨[AV.sc (.string a)],9⟩)::[]) [some AV.Bg,some (Aa s)]) else (
A2 pg KK.gl ((209,some ⟨[Aa i,Aa j,Aa k,Aa l,Aa m,Aa n],135⟩)::(209,some ⟨[Aa (0),Aa (0),Aa (0),Aa (0),Aa (0),Aa (0)],135⟩)::(1,some ⟨[AV.sc (.string b),Aa c,Aa d,Aa e,Aa f,Aa g,Aa h],26⟩)::(0,some ⟨[AV.sc (.string a)],9⟩)::[]) 118 [p,AV.agg [Aa i,Aa j,Aa k,Aa l,Aa m,Aa n]] fun ab=>
rG ab fun ad ae af=>
Ag ad fun t=>
Ag ae fun u=>
Ha af fun v=>
Ff pg KK 138 0 (.loop Vu) ⟨[(0,(AV.sc (.string a))),(1,p),(2,(Aa w)),(3,(AV.agg [AV.sc (.string b),Aa c,Aa d,Aa e,Aa f,Aa g,Aa h])),(4,(AV.ptr 0 0)),(7,(AV.ptr 1 0)),(8,AV.Bg),(9,(Aa (0))),(27,p),(28,(Aa q)),(10,(Aa q)),(29,(Aa q)),(30,(Ai (q !=(0)))),(32,(AV.agg [AV.sc (.string b),Aa c,Aa d,Aa e,Aa f,Aa g,Aa h])),(33,(Aa r)),(11,(Aa r)),(34,(Aa r)),(35,(Ai (r !=(0)))),(38,p),(39,(Aa w)),(40,(AV.Bn [AV.agg [Aa i,Aa j,Aa k,Aa l,Aa m,Aa n],Aa o])),(37,(AV.Bn [AV.agg [Aa i,Aa j,Aa k,Aa l,Aa m,Aa n],Aa o])),(41,(AV.agg [Aa i,Aa j,Aa k,Aa l,Aa m,Aa n])),(42,(Aa o)),(12,(AV.ptr 209 0)),(13,(Aa o)),(43,(Aa o)),(44,(Ai (o !=(0)))),(46,(AV.sc (.string a))),(47,x),(48,(Aa s)),(14,(Aa s)),(49,(Aa s)),(50,(Ai (s !=(0)))),(53,p),(54,(AV.agg [Aa i,Aa j,Aa k,Aa l,Aa m,Aa n])),(55,(AV.Bn [Aa t,Aa u,Ai v])),(52,(AV.Bn [Aa t,Aa u,Ai v])),(56,(Aa t)),(57,(Aa u)),(58,(Ai v)),(15,(Aa t)),(16,(Aa u)),(17,(Ai v)),(18,(AV.ptr 356 0)),(59,(AV.fn 119 [AV.ptr 356 0,AV.ptr 0 0])),(19,(AV.fn 119 [AV.ptr 356 0,AV.ptr 0 0])),(20,(Aa (1)))],((356,some ⟨[AV.Bg],147⟩)::(209,some ⟨[Aa i,Aa j,Aa k,Aa l,Aa m,Aa n],135⟩)::(209,some ⟨[Aa (0),Aa (0),Aa (0),Aa (0),Aa (0),Aa (0)],135⟩)::(1,some ⟨[AV.sc (.string b),Aa c,Aa d,Aa e,Aa f,Aa g,Aa h],26⟩)::(0,some ⟨[AV.sc (.string a)],9⟩)::[]),360⟩ (Afw R)))))
noncomputable def c45:Code:=((Tryz.f45).body).getD .skip
noncomputable def q45 (R:AV→Mem→Prop):A1→St→Prop:=Cm pg Tryz.f45 R
noncomputable def Ami:Code:=Dy c45 0
noncomputable def Agc (R:AV→Mem→Prop):A1→St→Prop:=Dz pg KK 33 0 c45 0 (q45 R)
noncomputable def Arj (R:AV→Mem→Prop) (N0:St→Prop):A1→St→Prop:=Dw N0 (Agc R)
def Aot (a:Int) (b:AV) (c:Bool) (d:AV) (e f g h:Int) (m:Mem):St:=⟨[(1,(Aa a)),(2,b),(7,(AV.ptr 0 0)),(8,(Ai c)),(13,d),(14,(Aa e)),(15,(Aa f))],((0,some ⟨[Aa g,Aa h],24⟩)::m),100000⟩
noncomputable def Afa (d:Int) (h:AV) (l:Bool) (j:AV) (g a b c:Int) (m:Mem) (R:AV→Mem→Prop) (N0:St→Prop):Prop:=
bif (decide (a<g)) then (
A4 (De 1 j (Aa a)) fun k=>
A4 (Ek (Al ((0,some ⟨[Aa b,Aa c],24⟩)::m)) k) fun f=>
bif (a !=d) then (
A2 pg KK.gl ((0,some ⟨[Aa b,Aa c],24⟩)::m) 28 [h,f,AV.agg [Aa b,Aa c]] fun n=>
E7 n fun c5 c6=>
Ag c5 fun i=>
Ag c6 fun e=>
bif (e==(0)) then (
As R ((0,some ⟨[Aa b,Aa c],24⟩)::m) [some (Ai false)]) else (
N0 ⟨[(1,(Aa d)),(2,h),(7,(AV.ptr 0 0)),(8,(Ai l)),(13,j),(14,(Aa g)),(15,(Aa (IntKind.wrap .i64 (a+(1))))),(16,(Ai (decide (a<g)))),(17,(Aa a)),(18,k),(19,f),(9,(Aa a)),(10,f),(20,(Aa a)),(21,(Aa d)),(22,(Ai (a !=d))),(24,h),(25,f),(26,(AV.agg [Aa b,Aa c])),(27,(AV.Bn [Aa i,Aa e])),(23,(AV.Bn [Aa i,Aa e])),(28,(Aa i)),(29,(Aa e)),(11,(Aa i)),(12,(Aa e)),(30,(Aa e)),(31,(Ai (e==(0)))),(32,(Aa (IntKind.wrap .i64 (a+(1)))))],((0,some ⟨[Aa b,Aa c],24⟩)::m),100085⟩)) else (
N0 ⟨[(1,(Aa d)),(2,h),(7,(AV.ptr 0 0)),(8,(Ai l)),(13,j),(14,(Aa g)),(15,(Aa (IntKind.wrap .i64 (a+(1))))),(16,(Ai (decide (a<g)))),(17,(Aa a)),(18,k),(19,f),(9,(Aa a)),(10,f),(20,(Aa a)),(21,(Aa d)),(22,(Ai (a !=d))),(32,(Aa (IntKind.wrap .i64 (a+(1)))))],((0,some ⟨[Aa b,Aa c],24⟩)::m),100011⟩)) else (
As R ((0,some ⟨[Aa b,Aa c],24⟩)::m) [some (Ai true)])
noncomputable def F45 (a:AV) (d:Int) (e:AV) (b c:Int) (R:AV→Mem→Prop):Prop:=
A4 (Da a) fun f=>
Ag f fun g=>
Ff pg KK 33 0 (.loop Ami) ⟨[(0,a),(1,(Aa d)),(2,e),(3,(AV.agg [Aa b,Aa c])),(7,(AV.ptr 0 0)),(8,(Ai false)),(13,a),(14,(Aa g)),(15,(Aa (0)))],((0,some ⟨[Aa b,Aa c],24⟩)::[]),5⟩ (Agc R)
noncomputable def c54:Code:=((Tryz.f54).body).getD .skip
noncomputable def q54 (R:AV→Mem→Prop):A1→St→Prop:=Cm pg Tryz.f54 R
noncomputable def F54 (a:AV) (R:AV→Mem→Prop):Prop:=
A4 (Ek (Al []) a) fun b=>
A2 pg KK.gl [] 42 [b] fun c=>
Ag c fun d=>
As R [] [some (Aa d)]
noncomputable def c55:Code:=((Tryz.f55).body).getD .skip
noncomputable def q55 (R:AV→Mem→Prop):A1→St→Prop:=Cm pg Tryz.f55 R
noncomputable def F55 (a:AV) (R:AV→Mem→Prop):Prop:=
A4 (Hj (Al []) 4 a) fun b=>
Hz b fun c d c3 e=>
Cd c fun s5=>
Ag d fun f=>
Ag c3 fun g=>
Cd e fun s8=>
A2 pg KK.gl [] 46 [AV.agg [AV.sc (.string s5),Aa f,Aa g,AV.sc (.string s8)]] fun h=>
Ag h fun i=>
As R [] [some (Aa i)]
noncomputable def c56:Code:=((Tryz.f56).body).getD .skip
noncomputable def q56 (R:AV→Mem→Prop):A1→St→Prop:=Cm pg Tryz.f56 R
noncomputable def F56 (a:AV) (R:AV→Mem→Prop):Prop:=
A4 (Hj (Al []) 7 a) fun b=>
vV b fun c d c3 e c5 c6 c7=>
Cd c fun s8=>
Ag d fun f=>
Ag c3 fun g=>
Ag e fun h=>
Ag c5 fun i=>
Ag c6 fun j=>
Ag c7 fun k=>
A2 pg KK.gl [] 57 [AV.agg [AV.sc (.string s8),Aa f,Aa g,Aa h,Aa i,Aa j,Aa k]] fun l=>
Ag l fun m=>
As R [] [some (Aa m)]
noncomputable def c58:Code:=((Tryz.f58).body).getD .skip
noncomputable def q58 (R:AV→Mem→Prop):A1→St→Prop:=Cm pg Tryz.f58 R
noncomputable def F58 (a:AV) (R:AV→Mem→Prop):Prop:=
A4 (Hj (Al []) 2 a) fun b=>
I3 b fun c d=>
Ag c fun e=>
Ag d fun f=>
A2 pg KK.gl [] 59 [AV.agg [Aa e,Aa f]] fun g=>
Ag g fun h=>
As R [] [some (Aa h)]
noncomputable def Aug:Code:=((Tryz.f191).body).getD .skip
noncomputable def Awd (R:AV→Mem→Prop):A1→St→Prop:=Cm pg Tryz.f191 R
noncomputable def Aov (d:ByteArray) (e a b c f g h i:Int) (R:AV→Mem→Prop):Prop:=
A2 pg KK.gl ((0,some ⟨[AV.sc (.string d),Aa e,Aa a,Aa b,Aa c,Aa f,Aa g],26⟩)::[]) 57 [AV.agg [AV.sc (.string d),Aa e,Aa a,Aa b,Aa c,Aa f,Aa g]] fun k=>
Ag k fun j=>
bif (j !=(0)) then (
As R ((0,some ⟨[AV.sc (.string d),Aa e,Aa a,Aa b,Aa c,Aa f,Aa g],26⟩)::[]) [some (Aa (0)),some (Aa j)]) else (
bif (decide (h<(0))) then (
As R ((0,some ⟨[AV.sc (.string d),Aa e,Aa a,Aa b,Aa c,Aa f,Aa g],26⟩)::[]) [some (Aa (0)),some (Aa (4))]) else (
bif (decide (h>(60000))) then (
As R ((0,some ⟨[AV.sc (.string d),Aa e,Aa a,Aa b,Aa c,Aa f,Aa g],26⟩)::[]) [some (Aa (0)),some (Aa (4))]) else (
bif (decide (i<(0))) then (
As R ((0,some ⟨[AV.sc (.string d),Aa e,Aa a,Aa b,Aa c,Aa f,Aa g],26⟩)::[]) [some (Aa (0)),some (Aa (4))]) else (
bif (decide (i>(60000))) then (
As R ((0,some ⟨[AV.sc (.string d),Aa e,Aa a,Aa b,Aa c,Aa f,Aa g],26⟩)::[]) [some (Aa (0)),some (Aa (4))]) else (
bif (decide (h>a)) then (
As R ((0,some ⟨[AV.sc (.string d),Aa e,Aa a,Aa b,Aa c,Aa f,Aa g],26⟩)::[]) [some (Aa (0)),some (Aa (20))]) else (
bif (decide (i>a)) then (
As R ((0,some ⟨[AV.sc (.string d),Aa e,Aa a,Aa b,Aa c,Aa f,Aa g],26⟩)::[]) [some (Aa (0)),some (Aa (20))]) else (
bif (decide (i≥h)) then (
A2 pg KK.gl ((0,some ⟨[AV.sc (.string d),Aa e,Aa a,Aa b,Aa c,Aa f,Aa g],26⟩)::[]) 190 [Aa (IntKind.wrap .i64 (i-h)),Aa b] fun l=>
E7 l fun c3 m=>
Ag c3 fun n=>
Ag m fun o=>
As R ((0,some ⟨[AV.sc (.string d),Aa e,Aa a,Aa b,Aa c,Aa f,Aa g],26⟩)::[]) [some (Aa n),some (Aa o)]) else (
A2 pg KK.gl ((0,some ⟨[AV.sc (.string d),Aa e,Aa a,Aa b,Aa c,Aa f,Aa g],26⟩)::[]) 190 [Aa (IntKind.wrap .i64 (h-i)),Aa c] fun p=>
E7 p fun c8 c9=>
Ag c8 fun q=>
Ag c9 fun r=>
As R ((0,some ⟨[AV.sc (.string d),Aa e,Aa a,Aa b,Aa c,Aa f,Aa g],26⟩)::[]) [some (Aa q),some (Aa r)]))))))))
noncomputable def c193:Code:=((Tryz.f193).body).getD .skip
noncomputable def At1 (R:AV→Mem→Prop):A1→St→Prop:=Cm pg Tryz.f193 R
noncomputable def Anj (a b c d e f:Int) (g:AV) (R:AV→Mem→Prop):Prop:=
A4 (Ek (Al ((0,some ⟨[Aa a,Aa b,Aa c,Aa d,Aa e,Aa f],135⟩)::[])) g) fun h=>
Ag h fun i=>
As R ((0,some ⟨[Aa a,Aa b,Aa c,Aa d,Aa e,Aa f],135⟩)::[]) [some (Ai (decide (a≥i)))]
noncomputable def Am8:Code:=((Tryz.f192).body).getD .skip
noncomputable def Ata (R:AV→Mem→Prop):A1→St→Prop:=Cm pg Tryz.f192 R
noncomputable def Ahf:Code:=Dy Am8 0
noncomputable def rZ (R:AV→Mem→Prop):A1→St→Prop:=Dz pg KK 19 0 Am8 0 (Ata R)
noncomputable def Aqx (R:AV→Mem→Prop) (N0:St→Prop):A1→St→Prop:=Dw N0 (rZ R)
def Akt (a b:AV) (c d e:Int) (m:Mem):St:=⟨[(0,a),(1,b),(4,(Aa c)),(7,(Aa d)),(8,(Aa e))],m,100000⟩
noncomputable def w5 (b c:AV) (o d a:Int) (m:Mem) (R:AV→Mem→Prop) (N0:St→Prop):Prop:=
bif (decide (a<d)) then (
A4 (De 6 b (Aa a)) fun f=>
A4 (Hj (Al m) 6 f) fun r=>
Kx r fun s c5 c6 c7 c8 c9=>
Ag s fun g=>
Ag c5 fun h=>
Ag c6 fun i=>
Ag c7 fun j=>
Ag c8 fun k=>
Ag c9 fun l=>
H7 (some c) (some [AV.agg [Aa g,Aa h,Aa i,Aa j,Aa k,Aa l]]) fun f16 p=>bif KK.pm f16 then A2 pg KK.gl m f16 p (fun n=>
Ha n fun e=>
bif e then (
As R m [some (Aa a)]) else (
N0 ⟨[(0,b),(1,c),(4,(Aa o)),(7,(Aa d)),(8,(Aa (IntKind.wrap .i64 (a+(1))))),(9,(Ai (decide (a<d)))),(10,(Aa a)),(5,(Aa a)),(11,c),(12,b),(13,(Aa a)),(14,f),(15,(AV.agg [Aa g,Aa h,Aa i,Aa j,Aa k,Aa l])),(16,(Ai e)),(18,(Aa (IntKind.wrap .i64 (a+(1)))))],m,100074⟩)) else C1 pg KK.gl m 100008 f16 p fun n q=>
Ha n fun e=>
bif e then (
As R q [some (Aa a)]) else (
N0 ⟨[(0,b),(1,c),(4,(Aa o)),(7,(Aa d)),(8,(Aa (IntKind.wrap .i64 (a+(1))))),(9,(Ai (decide (a<d)))),(10,(Aa a)),(5,(Aa a)),(11,c),(12,b),(13,(Aa a)),(14,f),(15,(AV.agg [Aa g,Aa h,Aa i,Aa j,Aa k,Aa l])),(16,(Ai e)),(18,(Aa (IntKind.wrap .i64 (a+(1)))))],q,100074⟩)) else (
As R m [some (Aa (-1))])
noncomputable def Amb (a b:AV) (R:AV→Mem→Prop):Prop:=
A4 (Da a) fun c=>
Ag c fun d=>
Ff pg KK 19 0 (.loop Ahf) ⟨[(0,a),(1,b),(4,(Aa (0))),(6,a),(7,(Aa d)),(8,(Aa (0)))],[],4⟩ (rZ R)
noncomputable def Ajg:Code:=((Tryz.f133).body).getD .skip
noncomputable def As2 (R:AV→Mem→Prop):A1→St→Prop:=Cm pg Tryz.f133 R
noncomputable def Uj:Code:=Dy Ajg 0
noncomputable def Ry (R:AV→Mem→Prop):A1→St→Prop:=Dz pg KK 141 0 Ajg 0 (As2 R)
noncomputable def Aqk (R:AV→Mem→Prop) (N0:St→Prop):A1→St→Prop:=Dw N0 (Ry R)
def Ai5 (a:AV) (b c:Int) (d:AV) (e f:Int) (m:Mem):St:=⟨[(1,(AV.ptr 0 0)),(2,a),(3,(Aa b)),(4,(Aa c)),(6,(AV.ptr 89 0)),(7,d),(84,(Aa e)),(85,(Aa f))],m,100000⟩
noncomputable def u0 (s:AV) (t h:Int) (d:AV) (e a:Int) (m:Mem) (R:AV→Mem→Prop) (N0:St→Prop):Prop:=
bif (decide (a<e)) then (
A4 (De 6 d (Aa a)) fun b=>
A4 (Ce pg (.nilCheck (.tmp 0)) 0 [b] (Al m) 100008) fun o=>
A4 (Eo 0 o) fun p=>
A4 (Eo 0 p) fun q=>
A4 (Ek (Al m) q) fun af=>
Ag af fun f=>
A4 (Ek (Al m) (AV.ptr 89 0)) fun ag=>
Ag ag fun g=>
bif (decide (f≥g)) then (
A4 (Ek (Al m) (AV.ptr 0 2)) fun ah=>
Ag ah fun u=>
A4 (Ce pg (.nilCheck (.tmp 0)) 0 [b] (Al m) 100018) fun v=>
A4 (Eo 0 v) fun w=>
A4 (Eo 3 w) fun x=>
B4 pg (Al m) 3 x (Aa u) fun aq d60=>
N0 ⟨[(1,(AV.ptr 0 0)),(2,s),(3,(Aa t)),(4,(Aa h)),(6,(AV.ptr 89 0)),(7,d),(84,(Aa e)),(85,(Aa (IntKind.wrap .i64 (a+(1))))),(86,(Ai (decide (a<e)))),(87,(Aa a)),(12,(Aa a)),(88,d),(89,(Aa a)),(90,b),(13,b),(91,b),(92,o),(93,p),(94,q),(95,(Aa f)),(96,(Aa g)),(97,(Ai (decide (f≥g)))),(98,b),(99,(AV.ptr 0 0)),(100,(AV.ptr 0 2)),(101,(Aa u)),(102,v),(103,w),(104,x),(139,(Aa (IntKind.wrap .i64 (a+(1)))))],Ad m d60,100024⟩) else (
A4 (Ek (Al m) (AV.ptr 0 2)) fun ai=>
Ag ai fun i=>
A4 (Ek (Al m) (AV.ptr 0 9)) fun aj=>
Ag aj fun j=>
A4 (Ce pg (.nilCheck (.tmp 0)) 0 [b] (Al m) 100023) fun y=>
A4 (Eo 0 y) fun z=>
A4 (Eo 0 z) fun aa=>
A4 (Ek (Al m) aa) fun ak=>
Ag ak fun k=>
A4 (Ek (Al m) (AV.ptr 0 6)) fun al=>
Ag al fun l=>
A2 pg KK.gl m 189 [Aa (IntKind.wrap .i64 ((IntKind.wrap .i64 (i-j))*(IntKind.wrap .i64 (k-l)))),Aa h] fun am=>
E7 am fun an ao=>
Ag an fun c=>
Ag ao fun n=>
A4 (Ek (Al m) (AV.ptr 0 9)) fun ap=>
Ag ap fun r=>
A4 (Ce pg (.nilCheck (.tmp 0)) 0 [b] (Al m) 100047) fun ab=>
A4 (Eo 0 ab) fun ad=>
A4 (Eo 3 ad) fun ae=>
B4 pg (Al m) 3 ae (Aa (IntKind.wrap .i64 (r+c))) fun ar d82=>
N0 ⟨[(1,(AV.ptr 0 0)),(2,s),(3,(Aa t)),(4,(Aa h)),(6,(AV.ptr 89 0)),(7,d),(84,(Aa e)),(85,(Aa (IntKind.wrap .i64 (a+(1))))),(86,(Ai (decide (a<e)))),(87,(Aa a)),(12,(Aa a)),(88,d),(89,(Aa a)),(90,b),(13,b),(91,b),(92,o),(93,p),(94,q),(95,(Aa f)),(96,(Aa g)),(97,(Ai (decide (f≥g)))),(106,(AV.ptr 0 0)),(107,(AV.ptr 0 2)),(108,(Aa i)),(109,(AV.ptr 0 6)),(110,(AV.ptr 0 6)),(111,(AV.ptr 0 9)),(112,(Aa j)),(113,(Aa (IntKind.wrap .i64 (i-j)))),(114,b),(115,y),(116,z),(117,aa),(118,(Aa k)),(119,(AV.ptr 0 6)),(120,(AV.ptr 0 6)),(121,(AV.ptr 0 6)),(122,(Aa l)),(123,(Aa (IntKind.wrap .i64 (k-l)))),(124,(Aa (IntKind.wrap .i64 ((IntKind.wrap .i64 (i-j))*(IntKind.wrap .i64 (k-l)))))),(125,(Aa h)),(126,(AV.Bn [Aa c,Aa n])),(105,(AV.Bn [Aa c,Aa n])),(127,(Aa c)),(128,(Aa n)),(14,(Aa c)),(15,(Aa n)),(129,b),(130,(AV.ptr 0 6)),(131,(AV.ptr 0 6)),(132,(AV.ptr 0 9)),(133,(Aa r)),(134,(Aa c)),(135,(Aa (IntKind.wrap .i64 (r+c)))),(136,ab),(137,ad),(138,ae),(139,(Aa (IntKind.wrap .i64 (a+(1)))))],Ad m d82,100053⟩)) else (
As R m [some d,some (Aa (0))])
noncomputable def Ac9 (v:ByteArray) (w g:Int) (x:ByteArray) (s f:AV) (e y z h aa ab:Int) (i:ByteArray) (j k l m n o ad ae:Int) (t:AV) (R:AV→Mem→Prop):Prop:=
Ic (Cl s)<|Ic (Cl f)<|Ic (Cl t)<|A2 pg KK.gl ((0,some ⟨[AV.sc (.string v),Aa w,Aa g,AV.sc (.string x),s,f,Aa e,Aa y,Aa z,Aa h,Aa aa,Aa ab,AV.sc (.string i),Aa j,Aa k,Aa l,Aa m,Aa n,Aa o,Aa ad,Aa ae,t],169⟩)::[]) 191 [AV.agg [AV.sc (.string i),Aa j,Aa k,Aa l,Aa m,Aa n,Aa o],Aa h,Aa g] fun v0=>
E7 v0 fun c1 c2=>
Ag c1 fun a=>
Ag c2 fun c=>
bif (c !=(0)) then (
As R ((0,some ⟨[AV.sc (.string v),Aa w,Aa g,AV.sc (.string x),s,f,Aa e,Aa y,Aa z,Aa h,Aa aa,Aa ab,AV.sc (.string i),Aa j,Aa k,Aa l,Aa m,Aa n,Aa o,Aa ad,Aa ae,t],169⟩)::[]) [some AV.Bg,some (Aa c)]) else (
C1 pg KK.gl ((89,some ⟨[Aa (IntKind.wrap .i64 (e+a))],3⟩)::(89,some ⟨[Aa (0)],3⟩)::(0,some ⟨[AV.sc (.string v),Aa w,Aa g,AV.sc (.string x),s,f,Aa e,Aa y,Aa z,Aa h,Aa aa,Aa ab,AV.sc (.string i),Aa j,Aa k,Aa l,Aa m,Aa n,Aa o,Aa ad,Aa ae,t],169⟩)::[]) 93 62 [f] fun b p=>
A4 (Da b) fun v6=>
Ag v6 fun d=>
bif (decide (a>(0))) then (
bif (decide (d>(0))) then (
A4 (Ek (Al p) (AV.ptr 89 0)) fun v8=>
Ag v8 fun q=>
A4 (De 6 b (Aa (IntKind.wrap .i64 (d-(1))))) fun an=>
A4 (Eo 0 an) fun ao=>
A4 (Eo 0 ao) fun ap=>
A4 (Ek (Al p) ap) fun ba=>
Ag ba fun r=>
bif (decide (q<r)) then (
A2 pg KK.gl p 192 [b,AV.fn 193 [AV.ptr 89 0]] fun bb=>
Ag bb fun u=>
A4 (De 6 b (Aa u)) fun au=>
A4 (Eo 0 au) fun av=>
A4 (Eo 0 av) fun aw=>
A4 (Ek (Al p) aw) fun bc=>
Ag bc fun al=>
A4 (Ek (Al p) (AV.ptr 89 0)) fun bd=>
Ag bd fun am=>
bif (al !=am) then (
A4 (Ek (Al p) (AV.ptr 0 21)) fun ax=>
A4 (Ek (Al p) (AV.ptr 89 0)) fun be=>
Ag be fun ay=>
A2 pg KK.gl p 60 [ax,Aa ay] fun bf=>
E7 bf fun c28 bg=>
Kx c28 fun bh bi bj bk bl bm=>
Ag bh fun af=>
Ag bi fun ag=>
Ag bj fun ah=>
Ag bk fun ai=>
Ag bl fun aj=>
Ag bm fun ak=>
Ag bg fun aq=>
Hi (Th 329 135 6 1 [Aa (0),Aa (0),Aa (0),Aa (0),Aa (0),Aa (0)] [(0,(AV.agg [Aa af,Aa ag,Aa ah,Aa ai,Aa aj,Aa ak]))]) ((323,some ⟨[Aa af,Aa ag,Aa ah,Aa ai,Aa aj,Aa ak],135⟩)::(323,some ⟨[Aa (0),Aa (0),Aa (0),Aa (0),Aa (0),Aa (0)],135⟩)::p) fun az bn=>
C1 pg KK.gl bn 330 194 [b,Aa u,az] fun ar bo=>
A4 (Da ar) fun bp=>
Ag bp fun bq=>
Ff pg KK 141 0 (.loop Uj) ⟨[(0,(AV.agg [AV.sc (.string v),Aa w,Aa g,AV.sc (.string x),s,f,Aa e,Aa y,Aa z,Aa h,Aa aa,Aa ab,AV.sc (.string i),Aa j,Aa k,Aa l,Aa m,Aa n,Aa o,Aa ad,Aa ae,t])),(1,(AV.ptr 0 0)),(2,AV.Bg),(3,(Aa (0))),(17,(AV.ptr 0 12)),(18,(AV.agg [AV.sc (.string i),Aa j,Aa k,Aa l,Aa m,Aa n,Aa o])),(19,(AV.ptr 0 6)),(20,(AV.ptr 0 6)),(21,(AV.ptr 0 9)),(22,(Aa h)),(23,(AV.ptr 0 0)),(24,(AV.ptr 0 2)),(25,(Aa g)),(26,(AV.Bn [Aa a,Aa c])),(16,(AV.Bn [Aa a,Aa c])),(27,(Aa a)),(28,(Aa c)),(4,(Aa a)),(5,(Aa c)),(29,(Aa c)),(30,(Ai (c !=(0)))),(32,(AV.ptr 0 6)),(33,(AV.ptr 0 6)),(34,(AV.ptr 0 6)),(35,(Aa e)),(36,(Aa a)),(37,(Aa (IntKind.wrap .i64 (e+a)))),(6,(AV.ptr 89 0)),(38,(AV.ptr 0 5)),(39,f),(40,b),(7,ar),(41,b),(42,(Aa d)),(8,(Aa d)),(43,(Aa a)),(44,(Ai (decide (a>(0))))),(45,(Ai true)),(46,(Aa d)),(47,(Ai (decide (d>(0))))),(48,(Ai (decide (d>(0))))),(49,(Ai true)),(50,(Aa q)),(51,b),(52,(Aa d)),(53,(Aa (IntKind.wrap .i64 (d-(1))))),(54,an),(55,ao),(56,ap),(57,(Aa r)),(58,(Ai (decide (q<r)))),(59,(Ai (decide (q<r)))),(60,b),(61,(AV.fn 193 [AV.ptr 89 0])),(62,(Aa u)),(9,(Aa u)),(63,b),(64,(Aa u)),(65,au),(66,av),(67,aw),(68,(Aa al)),(69,(Aa am)),(70,(Ai (al !=am))),(72,(AV.ptr 0 21)),(73,ax),(74,(Aa ay)),(75,(AV.Bn [AV.agg [Aa af,Aa ag,Aa ah,Aa ai,Aa aj,Aa ak],Aa aq])),(71,(AV.Bn [AV.agg [Aa af,Aa ag,Aa ah,Aa ai,Aa aj,Aa ak],Aa aq])),(76,(AV.agg [Aa af,Aa ag,Aa ah,Aa ai,Aa aj,Aa ak])),(77,(Aa aq)),(10,(AV.ptr 323 0)),(11,(Aa aq)),(78,b),(79,(Aa u)),(80,(AV.agg [Aa af,Aa ag,Aa ah,Aa ai,Aa aj,Aa ak])),(81,az),(82,ar),(83,ar),(84,(Aa bq)),(85,(Aa (0)))],bo,398⟩ (Ry R)) else (
A4 (Da b) fun br=>
Ag br fun bs=>
Ff pg KK 141 0 (.loop Uj) ⟨[(0,(AV.agg [AV.sc (.string v),Aa w,Aa g,AV.sc (.string x),s,f,Aa e,Aa y,Aa z,Aa h,Aa aa,Aa ab,AV.sc (.string i),Aa j,Aa k,Aa l,Aa m,Aa n,Aa o,Aa ad,Aa ae,t])),(1,(AV.ptr 0 0)),(2,AV.Bg),(3,(Aa (0))),(17,(AV.ptr 0 12)),(18,(AV.agg [AV.sc (.string i),Aa j,Aa k,Aa l,Aa m,Aa n,Aa o])),(19,(AV.ptr 0 6)),(20,(AV.ptr 0 6)),(21,(AV.ptr 0 9)),(22,(Aa h)),(23,(AV.ptr 0 0)),(24,(AV.ptr 0 2)),(25,(Aa g)),(26,(AV.Bn [Aa a,Aa c])),(16,(AV.Bn [Aa a,Aa c])),(27,(Aa a)),(28,(Aa c)),(4,(Aa a)),(5,(Aa c)),(29,(Aa c)),(30,(Ai (c !=(0)))),(32,(AV.ptr 0 6)),(33,(AV.ptr 0 6)),(34,(AV.ptr 0 6)),(35,(Aa e)),(36,(Aa a)),(37,(Aa (IntKind.wrap .i64 (e+a)))),(6,(AV.ptr 89 0)),(38,(AV.ptr 0 5)),(39,f),(40,b),(7,b),(41,b),(42,(Aa d)),(8,(Aa d)),(43,(Aa a)),(44,(Ai (decide (a>(0))))),(45,(Ai true)),(46,(Aa d)),(47,(Ai (decide (d>(0))))),(48,(Ai (decide (d>(0))))),(49,(Ai true)),(50,(Aa q)),(51,b),(52,(Aa d)),(53,(Aa (IntKind.wrap .i64 (d-(1))))),(54,an),(55,ao),(56,ap),(57,(Aa r)),(58,(Ai (decide (q<r)))),(59,(Ai (decide (q<r)))),(60,b),(61,(AV.fn 193 [AV.ptr 89 0])),(62,(Aa u)),(9,(Aa u)),(63,b),(64,(Aa u)),(65,au),(66,av),(67,aw),(68,(Aa al)),(69,(Aa am)),(70,(Ai (al !=am))),(83,b),(84,(Aa bs)),(85,(Aa (0)))],p,256⟩ (Ry R))) else (
A4 (Da b) fun bt=>
Ag bt fun bu=>
Ff pg KK 141 0 (.loop Uj) ⟨[(0,(AV.agg [AV.sc (.string v),Aa w,Aa g,AV.sc (.string x),s,f,Aa e,Aa y,Aa z,Aa h,Aa aa,Aa ab,AV.sc (.string i),Aa j,Aa k,Aa l,Aa m,Aa n,Aa o,Aa ad,Aa ae,t])),(1,(AV.ptr 0 0)),(2,AV.Bg),(3,(Aa (0))),(17,(AV.ptr 0 12)),(18,(AV.agg [AV.sc (.string i),Aa j,Aa k,Aa l,Aa m,Aa n,Aa o])),(19,(AV.ptr 0 6)),(20,(AV.ptr 0 6)),(21,(AV.ptr 0 9)),(22,(Aa h)),(23,(AV.ptr 0 0)),(24,(AV.ptr 0 2)),(25,(Aa g)),(26,(AV.Bn [Aa a,Aa c])),(16,(AV.Bn [Aa a,Aa c])),(27,(Aa a)),(28,(Aa c)),(4,(Aa a)),(5,(Aa c)),(29,(Aa c)),(30,(Ai (c !=(0)))),(32,(AV.ptr 0 6)),(33,(AV.ptr 0 6)),(34,(AV.ptr 0 6)),(35,(Aa e)),(36,(Aa a)),(37,(Aa (IntKind.wrap .i64 (e+a)))),(6,(AV.ptr 89 0)),(38,(AV.ptr 0 5)),(39,f),(40,b),(7,b),(41,b),(42,(Aa d)),(8,(Aa d)),(43,(Aa a)),(44,(Ai (decide (a>(0))))),(45,(Ai true)),(46,(Aa d)),(47,(Ai (decide (d>(0))))),(48,(Ai (decide (d>(0))))),(49,(Ai true)),(50,(Aa q)),(51,b),(52,(Aa d)),(53,(Aa (IntKind.wrap .i64 (d-(1))))),(54,an),(55,ao),(56,ap),(57,(Aa r)),(58,(Ai (decide (q<r)))),(59,(Ai (decide (q<r)))),(83,b),(84,(Aa bu)),(85,(Aa (0)))],p,181⟩ (Ry R))) else (
A4 (Da b) fun bv=>
Ag bv fun bw=>
Ff pg KK 141 0 (.loop Uj) ⟨[(0,(AV.agg [AV.sc (.string v),Aa w,Aa g,AV.sc (.string x),s,f,Aa e,Aa y,Aa z,Aa h,Aa aa,Aa ab,AV.sc (.string i),Aa j,Aa k,Aa l,Aa m,Aa n,Aa o,Aa ad,Aa ae,t])),(1,(AV.ptr 0 0)),(2,AV.Bg),(3,(Aa (0))),(17,(AV.ptr 0 12)),(18,(AV.agg [AV.sc (.string i),Aa j,Aa k,Aa l,Aa m,Aa n,Aa o])),(19,(AV.ptr 0 6)),(20,(AV.ptr 0 6)),(21,(AV.ptr 0 9)),(22,(Aa h)),(23,(AV.ptr 0 0)),(24,(AV.ptr 0 2)),(25,(Aa g)),(26,(AV.Bn [Aa a,Aa c])),(16,(AV.Bn [Aa a,Aa c])),(27,(Aa a)),(28,(Aa c)),(4,(Aa a)),(5,(Aa c)),(29,(Aa c)),(30,(Ai (c !=(0)))),(32,(AV.ptr 0 6)),(33,(AV.ptr 0 6)),(34,(AV.ptr 0 6)),(35,(Aa e)),(36,(Aa a)),(37,(Aa (IntKind.wrap .i64 (e+a)))),(6,(AV.ptr 89 0)),(38,(AV.ptr 0 5)),(39,f),(40,b),(7,b),(41,b),(42,(Aa d)),(8,(Aa d)),(43,(Aa a)),(44,(Ai (decide (a>(0))))),(45,(Ai true)),(46,(Aa d)),(47,(Ai (decide (d>(0))))),(48,(Ai (decide (d>(0))))),(49,(Ai false)),(50,(AV.Bn [])),(51,(AV.Bn [])),(52,(AV.Bn [])),(53,(AV.Bn [])),(54,(AV.Bn [])),(55,(AV.Bn [])),(56,(AV.Bn [])),(57,(AV.Bn [])),(58,(AV.Bn [])),(59,(Ai false)),(83,b),(84,(Aa bw)),(85,(Aa (0)))],p,181⟩ (Ry R))) else (
A4 (Da b) fun bz=>
Ag bz fun ca=>
Ff pg KK 141 0 (.loop Uj) ⟨[(0,(AV.agg [AV.sc (.string v),Aa w,Aa g,AV.sc (.string x),s,f,Aa e,Aa y,Aa z,Aa h,Aa aa,Aa ab,AV.sc (.string i),Aa j,Aa k,Aa l,Aa m,Aa n,Aa o,Aa ad,Aa ae,t])),(1,(AV.ptr 0 0)),(2,AV.Bg),(3,(Aa (0))),(17,(AV.ptr 0 12)),(18,(AV.agg [AV.sc (.string i),Aa j,Aa k,Aa l,Aa m,Aa n,Aa o])),(19,(AV.ptr 0 6)),(20,(AV.ptr 0 6)),(21,(AV.ptr 0 9)),(22,(Aa h)),(23,(AV.ptr 0 0)),(24,(AV.ptr 0 2)),(25,(Aa g)),(26,(AV.Bn [Aa a,Aa c])),(16,(AV.Bn [Aa a,Aa c])),(27,(Aa a)),(28,(Aa c)),(4,(Aa a)),(5,(Aa c)),(29,(Aa c)),(30,(Ai (c !=(0)))),(32,(AV.ptr 0 6)),(33,(AV.ptr 0 6)),(34,(AV.ptr 0 6)),(35,(Aa e)),(36,(Aa a)),(37,(Aa (IntKind.wrap .i64 (e+a)))),(6,(AV.ptr 89 0)),(38,(AV.ptr 0 5)),(39,f),(40,b),(7,b),(41,b),(42,(Aa d)),(8,(Aa d)),(43,(Aa a)),(44,(Ai (decide (a>(0))))),(45,(Ai false)),(46,(AV.Bn [])),(47,(AV.Bn [])),(48,(Ai false)),(49,(Ai false)),(50,(AV.Bn [])),(51,(AV.Bn [])),(52,(AV.Bn [])),(53,(AV.Bn [])),(54,(AV.Bn [])),(55,(AV.Bn [])),(56,(AV.Bn [])),(57,(AV.Bn [])),(58,(AV.Bn [])),(59,(Ai false)),(83,b),(84,(Aa ca)),(85,(Aa (0)))],p,181⟩ (Ry R)))
theorem yN (a:ByteArray) (b c:Int) (d:ByteArray) (e f:AV) (g i j k l m:Int) (n:ByteArray) (o p q r s t u v:Int) (w:AV) (R:AV→Mem→Prop) (h:Ac9 a b c d e f g i j k l m n o p q r s t u v w R):Own pg KK.gl 133 [AV.agg [AV.sc (.string a),Aa b,Aa c,AV.sc (.string d),e,f,Aa g,Aa i,Aa j,Aa k,Aa l,Aa m,AV.sc (.string n),Aa o,Aa p,Aa q,Aa r,Aa s,Aa t,Aa u,Aa v,w]] R:=Fe Re Tryz.func133 (code:=Ajg) B7 B7 B7 (X:=Ac9 a b c d e f g i j k l m n o p q r s t u v w R) B7 h
noncomputable def c196:Code:=((Tryz.f196).body).getD .skip
noncomputable def Avn (R:AV→Mem→Prop):A1→St→Prop:=Cm pg Tryz.f196 R
noncomputable def Ap1 (g:ByteArray) (h i:Int) (j:ByteArray) (b a:AV) (c d e k l m:Int) (n:ByteArray) (o p q r s t u v:Int) (f:AV) (R:AV→Mem→Prop):Prop:=
Ic (Cl b)<|Ic (Cl a)<|Ic (Cl f)<|A4 (De 6 a (Aa (0))) fun w=>
A4 (Eo 0 w) fun x=>
A4 (Eo 1 x) fun y=>
A4 (Hj (Al ((0,some ⟨[AV.sc (.string g),Aa h,Aa i,AV.sc (.string j),b,a,Aa c,Aa d,Aa e,Aa k,Aa l,Aa m,AV.sc (.string n),Aa o,Aa p,Aa q,Aa r,Aa s,Aa t,Aa u,Aa v,f],169⟩)::[])) 2 y) fun z=>
I3 z fun c4 c5=>
Ag c4 fun z6=>
Ag c5 fun z7=>
A2 pg KK.gl ((0,some ⟨[AV.sc (.string g),Aa h,Aa i,AV.sc (.string j),b,a,Aa c,Aa d,Aa e,Aa k,Aa l,Aa m,AV.sc (.string n),Aa o,Aa p,Aa q,Aa r,Aa s,Aa t,Aa u,Aa v,f],169⟩)::[]) 179 [AV.agg [Aa d,Aa e],AV.agg [Aa z6,Aa z7]] fun v8=>
E7 v8 fun c9 O2=>
Ag c9 fun aa=>
Ag O2 fun aj=>
A4 (De 6 a (Aa (0))) fun ab=>
A4 (Eo 0 ab) fun ad=>
A4 (Eo 0 ad) fun ae=>
A4 (Ek (Al ((0,some ⟨[AV.sc (.string g),Aa h,Aa i,AV.sc (.string j),b,a,Aa c,Aa d,Aa e,Aa k,Aa l,Aa m,AV.sc (.string n),Aa o,Aa p,Aa q,Aa r,Aa s,Aa t,Aa u,Aa v,f],169⟩)::[])) ae) fun af=>
Ag af fun ag=>
A4 (Ce pg (.binOp .quo 3 (.tmp 0) (.tmp 1) 3) 3 [Aa aa,Aa (IntKind.wrap .i64 (ag-c))] (Al ((0,some ⟨[AV.sc (.string g),Aa h,Aa i,AV.sc (.string j),b,a,Aa c,Aa d,Aa e,Aa k,Aa l,Aa m,AV.sc (.string n),Aa o,Aa p,Aa q,Aa r,Aa s,Aa t,Aa u,Aa v,f],169⟩)::[])) 30) fun ah=>
Ag ah fun ai=>
As R ((0,some ⟨[AV.sc (.string g),Aa h,Aa i,AV.sc (.string j),b,a,Aa c,Aa d,Aa e,Aa k,Aa l,Aa m,AV.sc (.string n),Aa o,Aa p,Aa q,Aa r,Aa s,Aa t,Aa u,Aa v,f],169⟩)::[]) [some (Aa ai)]
noncomputable def Ab4:Code:=((Tryz.f115).body).getD .skip
noncomputable def Avm (R:AV→Mem→Prop):A1→St→Prop:=Cm pg Tryz.f115 R
noncomputable def Aor (a b c d:Int) (R:AV→Mem→Prop):Prop:=
A4 (Mb [Aa (0),Aa (0)] [(0,1),(1,1)] [(0,(Aa (IntKind.wrap .i64 (a+c)))),(1,(Aa (IntKind.wrap .i64 (b+d))))]) fun e=>
B4 pg (Al ((2,some ⟨[Aa (0),Aa (0)],46⟩)::(1,some ⟨[Aa c,Aa d],46⟩)::(0,some ⟨[Aa a,Aa b],46⟩)::[])) 46 (AV.ptr 2 0) e fun f d1=>
As R (Ad ((2,some ⟨[Aa (0),Aa (0)],46⟩)::(1,some ⟨[Aa c,Aa d],46⟩)::(0,some ⟨[Aa a,Aa b],46⟩)::[]) d1) [(D7 pg (Al (Ad ((2,some ⟨[Aa (0),Aa (0)],46⟩)::(1,some ⟨[Aa c,Aa d],46⟩)::(0,some ⟨[Aa a,Aa b],46⟩)::[]) d1)) 46 (AV.ptr 2 0)).map (·.1)]
noncomputable def Akq:Code:=((Tryz.f134).body).getD .skip
noncomputable def Art (R:AV→Mem→Prop):A1→St→Prop:=Cm pg Tryz.f134 R
noncomputable def Ahw:Code:=Dy Akq 0
noncomputable def tH (R:AV→Mem→Prop):A1→St→Prop:=Dz pg KK 64 0 Akq 0 (Art R)
noncomputable def Aqm (R:AV→Mem→Prop) (N0:St→Prop):A1→St→Prop:=Dw N0 (tH R)
def Ak5 (a:AV) (b:Int) (c:AV) (d e:Int) (m:Mem):St:=⟨[(1,(AV.ptr 0 0)),(2,a),(3,(Aa b)),(4,c),(13,(Aa d)),(14,(Aa e))],m,100000⟩
noncomputable def yM (t2:AV) (t3:Int) (b:AV) (j a:Int) (m:Mem) (R:AV→Mem→Prop) (N0:St→Prop):Prop:=
bif (decide (a<j)) then (
H0 (Ek (Cy m (A3 (AV.ptr 0 2)++([]))) (AV.ptr 0 2)) fun v3 d3=>
Ag v3 fun l=>
H0 (Hj (Cy (Ad m d3) (A3 (AV.ptr 0 0)++([]))) 22 (AV.ptr 0 0)) fun v5 d5=>
wA v5 fun c6 c7 c8 c9 O2 Kj c12 Wm ax ay Is Mh kH az ba bb bc bd be bf bg n=>
Cd c6 fun s28=>
Ag c7 fun o=>
Ag c8 fun p=>
Cd c9 fun s31=>
Ag c12 fun q=>
Ag Wm fun r=>
Ag ax fun s=>
Ag ay fun t=>
Ag Is fun u=>
Ag Mh fun v=>
Cd kH fun s38=>
Ag az fun w=>
Ag ba fun x=>
Ag bb fun y=>
Ag bc fun z=>
Ag bd fun aa=>
Ag be fun ab=>
Ag bf fun ad=>
Ag bg fun ae=>
Uy pg KK.gl (Ad (Ad m d3) d5) 100007 196 [AV.agg [AV.sc (.string s28),Aa o,Aa p,AV.sc (.string s31),O2,Kj,Aa q,Aa r,Aa s,Aa t,Aa u,Aa v,AV.sc (.string s38),Aa w,Aa x,Aa y,Aa z,Aa aa,Aa ab,Aa ad,Aa ae,n]] fun bh d47 ft47=>
Ag bh fun k=>
H0 (De 6 b (Aa a)) fun af d49=>
H0 (Eo 0 af) fun ag d50=>
H0 (Eo 0 ag) fun g d51=>
H0 (Ek (Cy (Ad (Ad (Ad (Ad (Ad (Ad m d3) d5) d47) d49) d50) d51) (A3 g++([]))) g) fun bi d52=>
Ag bi fun h=>
H0 (Ek (Cy (Ad (Ad (Ad (Ad (Ad (Ad (Ad m d3) d5) d47) d49) d50) d51) d52) (A3 (AV.ptr 0 6)++([]))) (AV.ptr 0 6)) fun bj d54=>
Ag bj fun i=>
Uy pg KK.gl (Ad (Ad (Ad (Ad (Ad (Ad (Ad (Ad m d3) d5) d47) d49) d50) d51) d52) d54) 100020 195 [Aa l,Aa (IntKind.wrap .i64 (k*(IntKind.wrap .i64 (h-i))))] fun bk d56 ft56=>
E7 bk fun p9 c58=>
I3 p9 fun c59 c60=>
Ag c59 fun d=>
Ag c60 fun e=>
Ag c58 fun c=>
B4 pg (Cy ((100024,some ⟨[Aa (0),Aa (0)],46⟩)::(Ad (Ad (Ad (Ad (Ad (Ad (Ad (Ad (Ad m d3) d5) d47) d49) d50) d51) d52) d54) d56)) (A3 (AV.ptr 100024 0)++(A3 (AV.agg [Aa d,Aa e])++([])))) 46 (AV.ptr 100024 0) (AV.agg [Aa d,Aa e]) fun bw d64=>
Ic (E3 [0,1,3,0,8,0,0,96,224,480,992,0,2048,6144,14336,32736,65528,131071,262143,524287,524287,0,3145727,8388607] [⟨[],[]⟩,⟨[],[]⟩,⟨d3,A3 (AV.ptr 0 2)++([])⟩,⟨d5,A3 (AV.ptr 0 0)++([])⟩,⟨d47,ft47⟩,⟨[],[]⟩,⟨[],[]⟩,⟨d49,[]⟩,⟨d50,[]⟩,⟨d51,[]⟩,⟨d52,A3 g++([])⟩,⟨[],[]⟩,⟨[],[]⟩,⟨[],[]⟩,⟨d54,A3 (AV.ptr 0 6)++([])⟩,⟨[],[]⟩,⟨[],[]⟩,⟨d56,ft56⟩,⟨[],[]⟩,⟨[],[]⟩,⟨[],[]⟩,⟨[(100024,some ⟨[Aa (0),Aa (0)],46⟩)],[]⟩,⟨d64,A3 (AV.ptr 100024 0)++(A3 (AV.agg [Aa d,Aa e])++([]))⟩,⟨[],[]⟩]) (bif (c !=(0)) then (
As R (Ad ((100024,some ⟨[Aa (0),Aa (0)],46⟩)::(Ad (Ad (Ad (Ad (Ad (Ad (Ad (Ad (Ad m d3) d5) d47) d49) d50) d51) d52) d54) d56)) d64) [some AV.Bg,some (Aa c)]) else (
A4 (Hj (Al (Ad ((100024,some ⟨[Aa (0),Aa (0)],46⟩)::(Ad (Ad (Ad (Ad (Ad (Ad (Ad (Ad (Ad m d3) d5) d47) d49) d50) d51) d52) d54) d56)) d64)) 2 (AV.ptr 0 7)) fun bl=>
I3 bl fun c66 bm=>
Ag c66 fun ah=>
Ag bm fun ai=>
A4 (Hj (Al (Ad ((100024,some ⟨[Aa (0),Aa (0)],46⟩)::(Ad (Ad (Ad (Ad (Ad (Ad (Ad (Ad (Ad m d3) d5) d47) d49) d50) d51) d52) d54) d56)) d64)) 2 (AV.ptr 100024 0)) fun bn=>
I3 bn fun bo bp=>
Ag bo fun aj=>
Ag bp fun ak=>
A2 pg KK.gl (Ad ((100024,some ⟨[Aa (0),Aa (0)],46⟩)::(Ad (Ad (Ad (Ad (Ad (Ad (Ad (Ad (Ad m d3) d5) d47) d49) d50) d51) d52) d54) d56)) d64) 115 [AV.agg [Aa ah,Aa ai],AV.agg [Aa aj,Aa ak]] fun bq=>
I3 bq fun br c77=>
Ag br fun al=>
Ag c77 fun am=>
A4 (De 6 b (Aa a)) fun an=>
A4 (Eo 0 an) fun ao=>
A4 (Eo 1 ao) fun ap=>
B4 pg (Al (Ad ((100024,some ⟨[Aa (0),Aa (0)],46⟩)::(Ad (Ad (Ad (Ad (Ad (Ad (Ad (Ad (Ad m d3) d5) d47) d49) d50) d51) d52) d54) d56)) d64)) 46 ap (AV.agg [Aa al,Aa am]) fun bz d83=>
A4 (De 6 b (Aa a)) fun aq=>
A4 (Eo 0 aq) fun ar=>
A4 (Eo 1 ar) fun au=>
A4 (Hj (Al (Ad (Ad ((100024,some ⟨[Aa (0),Aa (0)],46⟩)::(Ad (Ad (Ad (Ad (Ad (Ad (Ad (Ad (Ad m d3) d5) d47) d49) d50) d51) d52) d54) d56)) d64) d83)) 2 au) fun bs=>
I3 bs fun bt bu=>
Ag bt fun av=>
Ag bu fun aw=>
A2 pg KK.gl (Ad (Ad ((100024,some ⟨[Aa (0),Aa (0)],46⟩)::(Ad (Ad (Ad (Ad (Ad (Ad (Ad (Ad (Ad m d3) d5) d47) d49) d50) d51) d52) d54) d56)) d64) d83) 59 [AV.agg [Aa av,Aa aw]] fun bv=>
Ag bv fun f=>
bif (f !=(0)) then (
As R (Ad (Ad ((100024,some ⟨[Aa (0),Aa (0)],46⟩)::(Ad (Ad (Ad (Ad (Ad (Ad (Ad (Ad (Ad m d3) d5) d47) d49) d50) d51) d52) d54) d56)) d64) d83) [some AV.Bg,some (Aa f)]) else (
N0 ⟨[(1,(AV.ptr 0 0)),(2,t2),(3,(Aa t3)),(4,b),(13,(Aa j)),(14,(Aa (IntKind.wrap .i64 (a+(1))))),(15,(Ai (decide (a<j)))),(16,(Aa a)),(5,(Aa a)),(18,(AV.ptr 0 0)),(19,(AV.ptr 0 2)),(20,(Aa l)),(21,(AV.agg [AV.sc (.string s28),Aa o,Aa p,AV.sc (.string s31),O2,Kj,Aa q,Aa r,Aa s,Aa t,Aa u,Aa v,AV.sc (.string s38),Aa w,Aa x,Aa y,Aa z,Aa aa,Aa ab,Aa ad,Aa ae,n])),(22,(Aa k)),(23,b),(24,(Aa a)),(25,af),(26,ag),(27,g),(28,(Aa h)),(29,(AV.ptr 0 6)),(30,(AV.ptr 0 6)),(31,(AV.ptr 0 6)),(32,(Aa i)),(33,(Aa (IntKind.wrap .i64 (h-i)))),(34,(Aa (IntKind.wrap .i64 (k*(IntKind.wrap .i64 (h-i)))))),(35,(AV.Bn [AV.agg [Aa d,Aa e],Aa c])),(17,(AV.Bn [AV.agg [Aa d,Aa e],Aa c])),(36,(AV.agg [Aa d,Aa e])),(37,(Aa c)),(6,(AV.ptr 100024 0)),(7,(Aa c)),(38,(Aa c)),(39,(Ai (c !=(0)))),(41,b),(42,(Aa a)),(43,(AV.ptr 0 6)),(44,(AV.ptr 0 6)),(45,(AV.ptr 0 7)),(46,(AV.agg [Aa ah,Aa ai])),(47,(AV.agg [Aa aj,Aa ak])),(48,(AV.agg [Aa al,Aa am])),(49,an),(50,ao),(51,ap),(52,b),(53,(Aa a)),(54,aq),(55,ar),(56,au),(57,(AV.agg [Aa av,Aa aw])),(58,(Aa f)),(8,(Aa f)),(59,(Aa f)),(60,(Ai (f !=(0)))),(62,(Aa (IntKind.wrap .i64 (a+(1)))))],Ad (Ad ((100024,some ⟨[Aa (0),Aa (0)],46⟩)::(Ad (Ad (Ad (Ad (Ad (Ad (Ad (Ad (Ad m d3) d5) d47) d49) d50) d51) d52) d54) d56)) d64) d83,100179⟩)))) else (
As R m [some b,some (Aa (0))])
noncomputable def Aev (e:ByteArray) (f g:Int) (h:ByteArray) (c a:AV) (i j k l m n:Int) (o:ByteArray) (p q r s t u v w:Int) (d:AV) (R:AV→Mem→Prop):Prop:=
Ic (Cl c)<|Ic (Cl a)<|Ic (Cl d)<|C1 pg KK.gl ((0,some ⟨[AV.sc (.string e),Aa f,Aa g,AV.sc (.string h),c,a,Aa i,Aa j,Aa k,Aa l,Aa m,Aa n,AV.sc (.string o),Aa p,Aa q,Aa r,Aa s,Aa t,Aa u,Aa v,Aa w,d],169⟩)::[]) 5 62 [a] fun b x=>
A4 (Da b) fun y=>
Ag y fun z=>
Ff pg KK 64 0 (.loop Ahw) ⟨[(0,(AV.agg [AV.sc (.string e),Aa f,Aa g,AV.sc (.string h),c,a,Aa i,Aa j,Aa k,Aa l,Aa m,Aa n,AV.sc (.string o),Aa p,Aa q,Aa r,Aa s,Aa t,Aa u,Aa v,Aa w,d])),(1,(AV.ptr 0 0)),(2,AV.Bg),(3,(Aa (0))),(9,(AV.ptr 0 5)),(10,a),(11,b),(4,b),(12,b),(13,(Aa z)),(14,(Aa (0)))],x,73⟩ (tH R)
theorem rD (a:ByteArray) (b c:Int) (d:ByteArray) (e f:AV) (g i j k l m:Int) (n:ByteArray) (o p q r s t u v:Int) (w:AV) (R:AV→Mem→Prop) (h:Aev a b c d e f g i j k l m n o p q r s t u v w R):Own pg KK.gl 134 [AV.agg [AV.sc (.string a),Aa b,Aa c,AV.sc (.string d),e,f,Aa g,Aa i,Aa j,Aa k,Aa l,Aa m,AV.sc (.string n),Aa o,Aa p,Aa q,Aa r,Aa s,Aa t,Aa u,Aa v,w]] R:=Fe Re Tryz.func134 (code:=Akq) B7 B7 B7 (X:=Aev a b c d e f g i j k l m n o p q r s t u v w R) B7 h
noncomputable def Akm:Code:=((Tryz.f135).body).getD .skip
noncomputable def Asi (R:AV→Mem→Prop):A1→St→Prop:=Cm pg Tryz.f135 R
noncomputable def Ak3:Code:=Dy Akm 0
noncomputable def uI (R:AV→Mem→Prop):A1→St→Prop:=Dz pg KK 82 0 Akm 0 (Asi R)
noncomputable def Aqv (R:AV→Mem→Prop) (N0:St→Prop):A1→St→Prop:=Dw N0 (uI R)
def Aj4 (a:AV) (b:Int) (c:AV) (d e f g h i j k:Int) (m:Mem):St:=⟨[(1,(AV.ptr 0 0)),(2,a),(3,(Aa b)),(4,c),(5,(AV.ptr 88 0)),(33,(Aa d)),(34,(Aa e))],((88,some ⟨[Aa f,Aa g,Aa h,Aa i,Aa j,Aa k],135⟩)::m),100000⟩
noncomputable def vK (t2:AV) (t3:Int) (h:AV) (n b a c d e f g:Int) (m:Mem) (R:AV→Mem→Prop) (N0:St→Prop):Prop:=
bif (decide (b<n)) then (
A4 (De 6 h (Aa b)) fun q=>
A4 (Eo 0 q) fun r=>
A4 (Eo 1 r) fun s=>
A4 (Hj (Al ((88,some ⟨[Aa a,Aa c,Aa d,Aa e,Aa f,Aa g],135⟩)::m)) 2 s) fun ak=>
I3 ak fun al am=>
Ag al fun t=>
Ag am fun u=>
A2 pg KK.gl ((88,some ⟨[Aa a,Aa c,Aa d,Aa e,Aa f,Aa g],135⟩)::m) 179 [AV.agg [Aa c,Aa d],AV.agg [Aa t,Aa u]] fun an=>
E7 an fun ao ap=>
Ag ao fun k=>
Ag ap fun i=>
A4 (Ek (Al ((88,some ⟨[Aa a,Aa c,Aa d,Aa e,Aa f,Aa g],135⟩)::m)) (AV.ptr 0 2)) fun aq=>
Ag aq fun v=>
A2 pg KK.gl ((88,some ⟨[Aa a,Aa c,Aa d,Aa e,Aa f,Aa g],135⟩)::m) 190 [Aa i,Aa v] fun ar=>
E7 ar fun au av=>
Ag au fun j=>
Ag av fun l=>
A4 (Ce pg (.call ⟨.builtin .max,#[.tmp 0,.tmp 1],#[3,3]⟩) 3 [Aa (1),Aa j] (Al ((88,some ⟨[Aa a,Aa c,Aa d,Aa e,Aa f,Aa g],135⟩)::m)) 100097) fun aw=>
Ag aw fun o=>
A4 (De 6 h (Aa b)) fun w=>
A4 (Eo 0 w) fun x=>
A4 (Eo 0 x) fun y=>
B4 pg (Al ((88,some ⟨[Aa a,Aa c,Aa d,Aa e,Aa f,Aa g],135⟩)::m)) 3 y (Aa (IntKind.wrap .i64 (a+o))) fun ba d41=>
A4 (De 6 h (Aa b)) fun z=>
A4 (Eo 0 z) fun aa=>
A4 (Eo 0 aa) fun ab=>
A4 (Ek (Al (Ad ((88,some ⟨[Aa a,Aa c,Aa d,Aa e,Aa f,Aa g],135⟩)::m) d41)) ab) fun ax=>
Ag ax fun p=>
bif (decide (p>(200000))) then (
As R (Ad ((88,some ⟨[Aa a,Aa c,Aa d,Aa e,Aa f,Aa g],135⟩)::m) d41) [some AV.Bg,some (Aa (12))]) else (
A4 (De 6 h (Aa b)) fun ad=>
A4 (Hj (Al (Ad ((88,some ⟨[Aa a,Aa c,Aa d,Aa e,Aa f,Aa g],135⟩)::m) d41)) 6 ad) fun ay=>
Kx ay fun c49 lQ c51 c52 az c54=>
Ag c49 fun ae=>
Ag lQ fun af=>
Ag c51 fun ag=>
Ag c52 fun ah=>
Ag az fun ai=>
Ag c54 fun aj=>
B4 pg (Al (Ad ((88,some ⟨[Aa a,Aa c,Aa d,Aa e,Aa f,Aa g],135⟩)::m) d41)) 135 (AV.ptr 88 0) (AV.agg [Aa ae,Aa af,Aa ag,Aa ah,Aa ai,Aa aj]) fun bb d61=>
N0 ⟨[(1,(AV.ptr 0 0)),(2,t2),(3,(Aa t3)),(4,h),(5,(AV.ptr 88 0)),(33,(Aa n)),(34,(Aa (IntKind.wrap .i64 (b+(1))))),(35,(Ai (decide (b<n)))),(36,(Aa b)),(6,(Aa b)),(38,(AV.ptr 88 0)),(39,(AV.ptr 88 1)),(40,(AV.agg [Aa c,Aa d])),(41,h),(42,(Aa b)),(43,q),(44,r),(45,s),(46,(AV.agg [Aa t,Aa u])),(47,(AV.Bn [Aa k,Aa i])),(37,(AV.Bn [Aa k,Aa i])),(48,(Aa k)),(49,(Aa i)),(7,(Aa k)),(8,(Aa i)),(51,(Aa i)),(52,(AV.ptr 0 0)),(53,(AV.ptr 0 2)),(54,(Aa v)),(55,(AV.Bn [Aa j,Aa l])),(50,(AV.Bn [Aa j,Aa l])),(56,(Aa j)),(57,(Aa l)),(9,(Aa j)),(10,(Aa l)),(58,h),(59,(Aa b)),(60,(AV.ptr 88 0)),(61,(AV.ptr 88 0)),(62,(Aa a)),(63,(Aa j)),(64,(Aa o)),(65,(Aa (IntKind.wrap .i64 (a+o)))),(66,w),(67,x),(68,y),(69,h),(70,(Aa b)),(71,z),(72,aa),(73,ab),(74,(Aa p)),(75,(Ai (decide (p>(200000))))),(76,h),(77,(Aa b)),(78,ad),(79,(AV.agg [Aa ae,Aa af,Aa ag,Aa ah,Aa ai,Aa aj])),(80,(Aa (IntKind.wrap .i64 (b+(1)))))],Ad (Ad ((88,some ⟨[Aa a,Aa c,Aa d,Aa e,Aa f,Aa g],135⟩)::m) d41) d61,100117⟩)) else (
As R ((88,some ⟨[Aa a,Aa c,Aa d,Aa e,Aa f,Aa g],135⟩)::m) [some h,some (Aa (0))])
noncomputable def Adc (g:ByteArray) (h a:Int) (i:ByteArray) (e c:AV) (j k l m n o:Int) (p:ByteArray) (q r s t d b u v:Int) (f:AV) (R:AV→Mem→Prop):Prop:=
Ic (Cl e)<|Ic (Cl c)<|Ic (Cl f)<|bif (decide (a<d)) then (
As R ((0,some ⟨[AV.sc (.string g),Aa h,Aa a,AV.sc (.string i),e,c,Aa j,Aa k,Aa l,Aa m,Aa n,Aa o,AV.sc (.string p),Aa q,Aa r,Aa s,Aa t,Aa d,Aa b,Aa u,Aa v,f],169⟩)::[]) [some AV.Bg,some (Aa (4))]) else (
bif (decide (a>b)) then (
As R ((0,some ⟨[AV.sc (.string g),Aa h,Aa a,AV.sc (.string i),e,c,Aa j,Aa k,Aa l,Aa m,Aa n,Aa o,AV.sc (.string p),Aa q,Aa r,Aa s,Aa t,Aa d,Aa b,Aa u,Aa v,f],169⟩)::[]) [some AV.Bg,some (Aa (4))]) else (
C1 pg KK.gl ((0,some ⟨[AV.sc (.string g),Aa h,Aa a,AV.sc (.string i),e,c,Aa j,Aa k,Aa l,Aa m,Aa n,Aa o,AV.sc (.string p),Aa q,Aa r,Aa s,Aa t,Aa d,Aa b,Aa u,Aa v,f],169⟩)::[]) 21 62 [c] fun w x=>
A4 (Hj (Al x) 6 (AV.ptr 0 6)) fun v1=>
Kx v1 fun c2 c3 c4 c5 c6 c7=>
Ag c2 fun y=>
Ag c3 fun z=>
Ag c4 fun aa=>
Ag c5 fun ab=>
Ag c6 fun ad=>
Ag c7 fun ae=>
A4 (Da w) fun af=>
Ag af fun ag=>
Ff pg KK 82 0 (.loop Ak3) ⟨[(0,(AV.agg [AV.sc (.string g),Aa h,Aa a,AV.sc (.string i),e,c,Aa j,Aa k,Aa l,Aa m,Aa n,Aa o,AV.sc (.string p),Aa q,Aa r,Aa s,Aa t,Aa d,Aa b,Aa u,Aa v,f])),(1,(AV.ptr 0 0)),(2,AV.Bg),(3,(Aa (0))),(11,(AV.ptr 0 0)),(12,(AV.ptr 0 2)),(13,(Aa a)),(14,(AV.ptr 0 12)),(15,(AV.ptr 0 17)),(16,(Aa d)),(17,(Ai (decide (a<d)))),(18,(Ai false)),(19,(AV.ptr 0 0)),(20,(AV.ptr 0 2)),(21,(Aa a)),(22,(AV.ptr 0 12)),(23,(AV.ptr 0 18)),(24,(Aa b)),(25,(Ai (decide (a>b)))),(26,(Ai (decide (a>b)))),(27,(AV.ptr 0 5)),(28,c),(29,w),(4,w),(30,(AV.ptr 0 6)),(31,(AV.agg [Aa y,Aa z,Aa aa,Aa ab,Aa ad,Aa ae])),(5,(AV.ptr 88 0)),(32,w),(33,(Aa ag)),(34,(Aa (0)))],((88,some ⟨[Aa y,Aa z,Aa aa,Aa ab,Aa ad,Aa ae],135⟩)::(88,some ⟨[Aa (0),Aa (0),Aa (0),Aa (0),Aa (0),Aa (0)],135⟩)::x),93⟩ (uI R)))
theorem tY (a:ByteArray) (b c:Int) (d:ByteArray) (e f:AV) (g i j k l m:Int) (n:ByteArray) (o p q r s t u v:Int) (w:AV) (R:AV→Mem→Prop) (h:Adc a b c d e f g i j k l m n o p q r s t u v w R):Own pg KK.gl 135 [AV.agg [AV.sc (.string a),Aa b,Aa c,AV.sc (.string d),e,f,Aa g,Aa i,Aa j,Aa k,Aa l,Aa m,AV.sc (.string n),Aa o,Aa p,Aa q,Aa r,Aa s,Aa t,Aa u,Aa v,w]] R:=Fe Re Tryz.func135 (code:=Akm) B7 B7 B7 (X:=Adc a b c d e f g i j k l m n o p q r s t u v w R) B7 h
noncomputable def Asv:Code:=((Tryz.f136).body).getD .skip
noncomputable def Aum (R:AV→Mem→Prop):A1→St→Prop:=Cm pg Tryz.f136 R
noncomputable def Acn (l:ByteArray) (m n:Int) (o:ByteArray) (i j:AV) (a e f b c d:Int) (p:ByteArray) (q r s t u v g h:Int) (k:AV) (R:AV→Mem→Prop):Prop:=
Ic (Cl i)<|Ic (Cl j)<|Ic (Cl k)<|A2 pg KK.gl ((0,some ⟨[AV.sc (.string l),Aa m,Aa n,AV.sc (.string o),i,j,Aa a,Aa e,Aa f,Aa b,Aa c,Aa d,AV.sc (.string p),Aa q,Aa r,Aa s,Aa t,Aa u,Aa v,Aa g,Aa h,k],169⟩)::[]) 196 [AV.agg [AV.sc (.string l),Aa m,Aa n,AV.sc (.string o),i,j,Aa a,Aa e,Aa f,Aa b,Aa c,Aa d,AV.sc (.string p),Aa q,Aa r,Aa s,Aa t,Aa u,Aa v,Aa g,Aa h,k]] fun z=>
Ag z fun x=>
bif (x==(0)) then (
As R ((0,some ⟨[AV.sc (.string l),Aa m,Aa n,AV.sc (.string o),i,j,Aa a,Aa e,Aa f,Aa b,Aa c,Aa d,AV.sc (.string p),Aa q,Aa r,Aa s,Aa t,Aa u,Aa v,Aa g,Aa h,k],169⟩)::[]) [some AV.Bg,some (Aa (10))]) else (
A2 pg KK.gl ((0,some ⟨[AV.sc (.string l),Aa m,Aa n,AV.sc (.string o),i,j,Aa a,Aa e,Aa f,Aa b,Aa c,Aa d,AV.sc (.string p),Aa q,Aa r,Aa s,Aa t,Aa u,Aa v,Aa g,Aa h,k],169⟩)::[]) 179 [AV.agg [Aa e,Aa f],AV.agg [Aa g,Aa h]] fun v2=>
E7 v2 fun c3 c4=>
Ag c3 fun z5=>
Ag c4 fun y=>
bif (y==(0)) then (
As R ((0,some ⟨[AV.sc (.string l),Aa m,Aa n,AV.sc (.string o),i,j,Aa a,Aa e,Aa f,Aa b,Aa c,Aa d,AV.sc (.string p),Aa q,Aa r,Aa s,Aa t,Aa u,Aa v,Aa g,Aa h,k],169⟩)::[]) [some AV.Bg,some (Aa (0))]) else (
A2 pg KK.gl ((0,some ⟨[AV.sc (.string l),Aa m,Aa n,AV.sc (.string o),i,j,Aa a,Aa e,Aa f,Aa b,Aa c,Aa d,AV.sc (.string p),Aa q,Aa r,Aa s,Aa t,Aa u,Aa v,Aa g,Aa h,k],169⟩)::[]) 190 [Aa y,Aa x] fun v7=>
E7 v7 fun c8 c9=>
Ag c8 fun w=>
Ag c9 fun ad=>
bif (decide ((IntKind.wrap .i64 (a+w))>(200000))) then (
As R ((221,some ⟨[Aa (IntKind.wrap .i64 (a+w)),Aa g,Aa h,Aa b,Aa c,Aa d],135⟩)::(221,some ⟨[Aa (IntKind.wrap .i64 (a+w)),Aa e,Aa f,Aa b,Aa c,Aa d],135⟩)::(221,some ⟨[Aa a,Aa e,Aa f,Aa b,Aa c,Aa d],135⟩)::(221,some ⟨[Aa (0),Aa (0),Aa (0),Aa (0),Aa (0),Aa (0)],135⟩)::(0,some ⟨[AV.sc (.string l),Aa m,Aa n,AV.sc (.string o),i,j,Aa a,Aa e,Aa f,Aa b,Aa c,Aa d,AV.sc (.string p),Aa q,Aa r,Aa s,Aa t,Aa u,Aa v,Aa g,Aa h,k],169⟩)::[]) [some AV.Bg,some (Aa (12))]) else (
Hi (Th 241 135 6 1 [Aa (0),Aa (0),Aa (0),Aa (0),Aa (0),Aa (0)] [(0,(AV.agg [Aa (IntKind.wrap .i64 (a+w)),Aa g,Aa h,Aa b,Aa c,Aa d]))]) ((221,some ⟨[Aa (IntKind.wrap .i64 (a+w)),Aa g,Aa h,Aa b,Aa c,Aa d],135⟩)::(221,some ⟨[Aa (IntKind.wrap .i64 (a+w)),Aa e,Aa f,Aa b,Aa c,Aa d],135⟩)::(221,some ⟨[Aa a,Aa e,Aa f,Aa b,Aa c,Aa d],135⟩)::(221,some ⟨[Aa (0),Aa (0),Aa (0),Aa (0),Aa (0),Aa (0)],135⟩)::(0,some ⟨[AV.sc (.string l),Aa m,Aa n,AV.sc (.string o),i,j,Aa a,Aa e,Aa f,Aa b,Aa c,Aa d,AV.sc (.string p),Aa q,Aa r,Aa s,Aa t,Aa u,Aa v,Aa g,Aa h,k],169⟩)::[]) fun aa ab=>
As R ab [some aa,some (Aa (0))])))
theorem Aac (a:ByteArray) (b c:Int) (d:ByteArray) (e f:AV) (g i j k l m:Int) (n:ByteArray) (o p q r s t u v:Int) (w:AV) (R:AV→Mem→Prop) (h:Acn a b c d e f g i j k l m n o p q r s t u v w R):Own pg KK.gl 136 [AV.agg [AV.sc (.string a),Aa b,Aa c,AV.sc (.string d),e,f,Aa g,Aa i,Aa j,Aa k,Aa l,Aa m,AV.sc (.string n),Aa o,Aa p,Aa q,Aa r,Aa s,Aa t,Aa u,Aa v,w]] R:=Fe Re Tryz.func136 (code:=Asv) B7 B7 B7 (X:=Acn a b c d e f g i j k l m n o p q r s t u v w R) B7 h
noncomputable def c61:Code:=((Tryz.f61).body).getD .skip
noncomputable def q61 (R:AV→Mem→Prop):A1→St→Prop:=Cm pg Tryz.f61 R
noncomputable def F61 (e:ByteArray) (a f:Int) (g:ByteArray) (c b:AV) (h i j k l m:Int) (n:ByteArray) (o p q r s t u v:Int) (d:AV) (R:AV→Mem→Prop):Prop:=
Ic (Cl c)<|Ic (Cl b)<|Ic (Cl d)<|bif (a==(0)) then (
C1 pg KK.gl ((0,some ⟨[AV.sc (.string e),Aa a,Aa f,AV.sc (.string g),c,b,Aa h,Aa i,Aa j,Aa k,Aa l,Aa m,AV.sc (.string n),Aa o,Aa p,Aa q,Aa r,Aa s,Aa t,Aa u,Aa v,d],169⟩)::[]) 10 133 [AV.agg [AV.sc (.string e),Aa a,Aa f,AV.sc (.string g),c,b,Aa h,Aa i,Aa j,Aa k,Aa l,Aa m,AV.sc (.string n),Aa o,Aa p,Aa q,Aa r,Aa s,Aa t,Aa u,Aa v,d]] fun w x=>
E7 w fun y z=>
Ag z fun z3=>
As R x [some y,some (Ai false),some (Aa z3)]) else (
A4 (Da b) fun v4=>
Ag v4 fun z5=>
bif (z5==(0)) then (
As R ((0,some ⟨[AV.sc (.string e),Aa a,Aa f,AV.sc (.string g),c,b,Aa h,Aa i,Aa j,Aa k,Aa l,Aa m,AV.sc (.string n),Aa o,Aa p,Aa q,Aa r,Aa s,Aa t,Aa u,Aa v,d],169⟩)::[]) [some AV.Bg,some (Ai true),some (Aa (0))]) else (
bif (a==(1)) then (
C1 pg KK.gl ((0,some ⟨[AV.sc (.string e),Aa a,Aa f,AV.sc (.string g),c,b,Aa h,Aa i,Aa j,Aa k,Aa l,Aa m,AV.sc (.string n),Aa o,Aa p,Aa q,Aa r,Aa s,Aa t,Aa u,Aa v,d],169⟩)::[]) 20 134 [AV.agg [AV.sc (.string e),Aa a,Aa f,AV.sc (.string g),c,b,Aa h,Aa i,Aa j,Aa k,Aa l,Aa m,AV.sc (.string n),Aa o,Aa p,Aa q,Aa r,Aa s,Aa t,Aa u,Aa v,d]] fun v6 m6=>
E7 v6 fun c7 c8=>
Ag c8 fun z9=>
As R m6 [some c7,some (Ai false),some (Aa z9)]) else (
bif (a==(2)) then (
C1 pg KK.gl ((0,some ⟨[AV.sc (.string e),Aa a,Aa f,AV.sc (.string g),c,b,Aa h,Aa i,Aa j,Aa k,Aa l,Aa m,AV.sc (.string n),Aa o,Aa p,Aa q,Aa r,Aa s,Aa t,Aa u,Aa v,d],169⟩)::[]) 25 135 [AV.agg [AV.sc (.string e),Aa a,Aa f,AV.sc (.string g),c,b,Aa h,Aa i,Aa j,Aa k,Aa l,Aa m,AV.sc (.string n),Aa o,Aa p,Aa q,Aa r,Aa s,Aa t,Aa u,Aa v,d]] fun aa ab=>
E7 aa fun Kj c12=>
Ag c12 fun ad=>
As R ab [some Kj,some (Ai false),some (Aa ad)]) else (
bif (a==(3)) then (
C1 pg KK.gl ((0,some ⟨[AV.sc (.string e),Aa a,Aa f,AV.sc (.string g),c,b,Aa h,Aa i,Aa j,Aa k,Aa l,Aa m,AV.sc (.string n),Aa o,Aa p,Aa q,Aa r,Aa s,Aa t,Aa u,Aa v,d],169⟩)::[]) 30 136 [AV.agg [AV.sc (.string e),Aa a,Aa f,AV.sc (.string g),c,b,Aa h,Aa i,Aa j,Aa k,Aa l,Aa m,AV.sc (.string n),Aa o,Aa p,Aa q,Aa r,Aa s,Aa t,Aa u,Aa v,d]] fun ae af=>
E7 ae fun ag Is=>
Ag Is fun ah=>
As R af [some ag,some (Ai false),some (Aa ah)]) else (
As R ((0,some ⟨[AV.sc (.string e),Aa a,Aa f,AV.sc (.string g),c,b,Aa h,Aa i,Aa j,Aa k,Aa l,Aa m,AV.sc (.string n),Aa o,Aa p,Aa q,Aa r,Aa s,Aa t,Aa u,Aa v,d],169⟩)::[]) [some AV.Bg,some (Ai true),some (Aa (0))])))))
theorem Aeo (a:ByteArray) (b c:Int) (d:ByteArray) (e f:AV) (g i j k l m:Int) (n:ByteArray) (o p q r s t u v:Int) (w:AV) (R:AV→Mem→Prop) (h:F61 a b c d e f g i j k l m n o p q r s t u v w R):Own pg KK.gl 61 [AV.agg [AV.sc (.string a),Aa b,Aa c,AV.sc (.string d),e,f,Aa g,Aa i,Aa j,Aa k,Aa l,Aa m,AV.sc (.string n),Aa o,Aa p,Aa q,Aa r,Aa s,Aa t,Aa u,Aa v,w]] R:=Fe Re Tryz.func61 (code:=c61) B7 B7 B7 (X:=F61 a b c d e f g i j k l m n o p q r s t u v w R) B7 h
end Go.Proofs.YtkdodbfnocdkdaaGreatDoor
