/- A part. -/
import Derived.Test.YtmhnnmfcjdnlhaaGreatDoorX1T
set_option linter.unusedVariables false
set_option maxRecDepth 100000
set_option maxHeartbeats 4000000
namespace Go.Proofs.YtmhnnmfcjdnlhaaGreatDoor
noncomputable def cX:Code:=((Tryz.f37).body).getD .skip
noncomputable def q37 (R:AV→Mem→Prop):Bh→St→Prop:=C8 pg Tryz.f37 R
noncomputable def eJ:Code:=Ey cX 0
noncomputable def eQ (R:AV→Mem→Prop):Bh→St→Prop:=Ew pg KK 41 0 cX 0 (q37 R)
noncomputable def Acr (R:AV→Mem→Prop) (N0:St→Prop):Bh→St→Prop:=Ex N0 (eQ R)
def Ti (a:Bool) (b:AV) (c d:Int) (m:Mem):St:=⟨[(2,(Ah a)),(14,b),(15,(Aa c)),(16,(Aa d))],m,100000⟩
noncomputable def dA (f:Bool) (d:AV) (c b:Int) (m:Mem) (R:AV→Mem→Prop) (N0:St→Prop):Prop:=
bif (decide (b<c)) then (
Bo (Eb 1 d (Aa b)) fun e=>
Bo (Fm (Am m) e) fun g=>
bW g fun a=>
bif (decide (a≥(65))) then (
bif (decide (a≤(90))) then (
N0 ⟨[(2,(Ah f)),(14,d),(15,(Aa c)),(16,(Aa (IntKind.wrap .i64 (b+(1))))),(17,(Ah (decide (b<c)))),(18,(Aa b)),(19,e),(20,(AV.sc (.int .u8 a))),(3,(Aa b)),(4,(AV.sc (.int .u8 a))),(21,(AV.sc (.int .u8 a))),(22,(Ah (decide (a≥(65))))),(23,(Ah true)),(24,(AV.sc (.int .u8 a))),(25,(Ah (decide (a≤(90))))),(26,(Ah (decide (a≤(90))))),(27,(Ah true)),(28,(AV.B4 [])),(29,(AV.B4 [])),(30,(AV.B4 [])),(31,(AV.B4 [])),(32,(AV.B4 [])),(33,(AV.B4 [])),(34,(AV.B4 [])),(35,(AV.B4 [])),(36,(AV.B4 [])),(37,(AV.B4 [])),(38,(Ah true)),(39,(Ah false)),(40,(Aa (IntKind.wrap .i64 (b+(1)))))],m,100017⟩) else (
bif (decide (b>(0))) then (
bif (decide (a≥(48))) then (
bif (!(decide (a≤(57)))) then (
A2 R m [some (Ah false)]) else (
N0 ⟨[(2,(Ah f)),(14,d),(15,(Aa c)),(16,(Aa (IntKind.wrap .i64 (b+(1))))),(17,(Ah (decide (b<c)))),(18,(Aa b)),(19,e),(20,(AV.sc (.int .u8 a))),(3,(Aa b)),(4,(AV.sc (.int .u8 a))),(21,(AV.sc (.int .u8 a))),(22,(Ah (decide (a≥(65))))),(23,(Ah true)),(24,(AV.sc (.int .u8 a))),(25,(Ah (decide (a≤(90))))),(26,(Ah (decide (a≤(90))))),(27,(Ah false)),(28,(Aa b)),(29,(Ah (decide (b>(0))))),(30,(Ah true)),(31,(AV.sc (.int .u8 a))),(32,(Ah (decide (a≥(48))))),(33,(Ah (decide (a≥(48))))),(34,(Ah true)),(35,(AV.sc (.int .u8 a))),(36,(Ah (decide (a≤(57))))),(37,(Ah (decide (a≤(57))))),(38,(Ah (decide (a≤(57))))),(39,(Ah (!(decide (a≤(57)))))),(40,(Aa (IntKind.wrap .i64 (b+(1)))))],m,100027⟩)) else (
A2 R m [some (Ah false)])) else (
A2 R m [some (Ah false)]))) else (
bif (decide (b>(0))) then (
bif (decide (a≥(48))) then (
bif (!(decide (a≤(57)))) then (
A2 R m [some (Ah false)]) else (
N0 ⟨[(2,(Ah f)),(14,d),(15,(Aa c)),(16,(Aa (IntKind.wrap .i64 (b+(1))))),(17,(Ah (decide (b<c)))),(18,(Aa b)),(19,e),(20,(AV.sc (.int .u8 a))),(3,(Aa b)),(4,(AV.sc (.int .u8 a))),(21,(AV.sc (.int .u8 a))),(22,(Ah (decide (a≥(65))))),(23,(Ah false)),(24,(AV.B4 [])),(25,(AV.B4 [])),(26,(Ah false)),(27,(Ah false)),(28,(Aa b)),(29,(Ah (decide (b>(0))))),(30,(Ah true)),(31,(AV.sc (.int .u8 a))),(32,(Ah (decide (a≥(48))))),(33,(Ah (decide (a≥(48))))),(34,(Ah true)),(35,(AV.sc (.int .u8 a))),(36,(Ah (decide (a≤(57))))),(37,(Ah (decide (a≤(57))))),(38,(Ah (decide (a≤(57))))),(39,(Ah (!(decide (a≤(57)))))),(40,(Aa (IntKind.wrap .i64 (b+(1)))))],m,100025⟩)) else (
A2 R m [some (Ah false)])) else (
A2 R m [some (Ah false)]))) else (
A2 R m [some (Ah true)])
theorem lU (a:Bool) (b:AV) (c d:Int) (m:Mem) (R:AV→Mem→Prop) (N0:St→Prop):W pg KK 41 0 eJ (Ti a b c d m) (Acr R N0)=dA a b c d m R N0:=by kernel_rfl
theorem Ae0 (R:AV→Mem→Prop) {σ:Type} (I:σ→Prop) (a:σ→Bool) (b:σ→AV) (c d:σ→Int) (m:σ→Mem) (μ:σ→Nat) (step:∀x,I x→dA (a x) (b x) (c x) (d x) (m x) R (fun s'=>∃y,I y∧μ y<μ x∧Cl KK 41 0 s' (Ti (a y) (b y) (c y) (d y) (m y)))) (x:σ) (hx:I x) {s:St} (hw:Cl KK 41 0 s (Ti (a x) (b x) (c x) (d x) (m x))):C6 pg KK 41 0 (.loop eJ) s (eQ R):=
 C6.He hw (C6.loops Ee I (fun x=>Ti (a x) (b x) (c x) (d x) (m x)) μ (fun x hx=>(lU (a x) (b x) (c x) (d x) (m x) R _).mpr (step x hx)) x hx)
noncomputable def F37 (a:ByteArray) (R:AV→Mem→Prop):Prop:=
Bo (Cs pg (.call ⟨.builtin .len,#[.tmp 0],#[9]⟩) 3 [AV.sc (.string a)] (Am []) 2) fun e=>
Af e fun c=>
bif (decide (c<(1))) then (
A2 R [] [some (Ah false)]) else (
Bo (Cs pg (.call ⟨.builtin .len,#[.tmp 0],#[9]⟩) 3 [AV.sc (.string a)] (Am []) 6) fun f=>
Af f fun b=>
bif (decide (b>(8))) then (
A2 R [] [some (Ah false)]) else (
Bo (Cs pg (.convert 9 96 (.tmp 0)) 96 [AV.sc (.string a)] (Am []) 10) fun d=>
Bo (Ed d) fun g=>
Af g fun h=>
C6 pg KK 41 0 (.loop eJ) ⟨[(0,(AV.sc (.string a))),(2,(Ah false)),(5,(AV.sc (.string a))),(6,(Aa c)),(7,(Ah (decide (c<(1))))),(8,(Ah false)),(9,(AV.sc (.string a))),(10,(Aa b)),(11,(Ah (decide (b>(8))))),(12,(Ah (decide (b>(8))))),(13,(AV.sc (.string a))),(14,d),(15,(Aa h)),(16,(Aa (0)))],[],13⟩ (eQ R)))
theorem vD (a:ByteArray) (R:AV→Mem→Prop) (h:F37 a R):Own pg KK.gl 37 [AV.sc (.string a)] R:=Bk Ee Tryz.func37 (code:=cX) Bi Bi Bi (X:=F37 a R) Bi h
noncomputable def c36:Code:=((Tryz.f36).body).getD .skip
noncomputable def q36 (R:AV→Mem→Prop):Bh→St→Prop:=C8 pg Tryz.f36 R
noncomputable def F36 (a b:Int) (R:AV→Mem→Prop):Prop:=
bif (decide (a<(1))) then (
A2 R [] [some (Ah true)]) else (
A2 R [] [some (Ah (decide (a>b)))])
theorem wC (a b:Int) (R:AV→Mem→Prop) (h:F36 a b R):Own pg KK.gl 36 [Aa a,Aa b] R:=Bk Ee Tryz.func36 (code:=c36) Bi Bi Bi (X:=F36 a b R) Bi h
noncomputable def Uv:Code:=((Tryz.f20).body).getD .skip
noncomputable def q20 (R:AV→Mem→Prop):Bh→St→Prop:=C8 pg Tryz.f20 R
noncomputable def F20 (d:ByteArray) (a e f g b c:Int) (R:AV→Mem→Prop):Prop:=
Bd pg KK.gl ((0,some ⟨[AV.sc (.string d),Aa a,Aa e,Aa f,Aa g,Aa b,Aa c],26⟩)::[]) 37 [AV.sc (.string d)] fun h=>
Hr h fun i=>
bif (!i) then (
A2 R ((0,some ⟨[AV.sc (.string d),Aa a,Aa e,Aa f,Aa g,Aa b,Aa c],26⟩)::[]) [some (Aa (5))]) else (
bif (decide (a<(0))) then (
A2 R ((0,some ⟨[AV.sc (.string d),Aa a,Aa e,Aa f,Aa g,Aa b,Aa c],26⟩)::[]) [some (Aa (1))]) else (
bif (decide (a>(3))) then (
A2 R ((0,some ⟨[AV.sc (.string d),Aa a,Aa e,Aa f,Aa g,Aa b,Aa c],26⟩)::[]) [some (Aa (1))]) else (
Bd pg KK.gl ((0,some ⟨[AV.sc (.string d),Aa a,Aa e,Aa f,Aa g,Aa b,Aa c],26⟩)::[]) 36 [Aa e,Aa (60000)] fun j=>
Hr j fun k=>
bif k then (
A2 R ((0,some ⟨[AV.sc (.string d),Aa a,Aa e,Aa f,Aa g,Aa b,Aa c],26⟩)::[]) [some (Aa (4))]) else (
Bd pg KK.gl ((0,some ⟨[AV.sc (.string d),Aa a,Aa e,Aa f,Aa g,Aa b,Aa c],26⟩)::[]) 36 [Aa f,Aa (200)] fun l=>
Hr l fun m=>
bif m then (
A2 R ((0,some ⟨[AV.sc (.string d),Aa a,Aa e,Aa f,Aa g,Aa b,Aa c],26⟩)::[]) [some (Aa (4))]) else (
Bd pg KK.gl ((0,some ⟨[AV.sc (.string d),Aa a,Aa e,Aa f,Aa g,Aa b,Aa c],26⟩)::[]) 36 [Aa g,Aa (200)] fun n=>
Hr n fun o=>
bif o then (
A2 R ((0,some ⟨[AV.sc (.string d),Aa a,Aa e,Aa f,Aa g,Aa b,Aa c],26⟩)::[]) [some (Aa (4))]) else (
Bd pg KK.gl ((0,some ⟨[AV.sc (.string d),Aa a,Aa e,Aa f,Aa g,Aa b,Aa c],26⟩)::[]) 36 [Aa b,Aa (400)] fun p=>
Hr p fun q=>
bif q then (
A2 R ((0,some ⟨[AV.sc (.string d),Aa a,Aa e,Aa f,Aa g,Aa b,Aa c],26⟩)::[]) [some (Aa (4))]) else (
Bd pg KK.gl ((0,some ⟨[AV.sc (.string d),Aa a,Aa e,Aa f,Aa g,Aa b,Aa c],26⟩)::[]) 36 [Aa c,Aa (400)] fun r=>
Hr r fun s=>
bif s then (
A2 R ((0,some ⟨[AV.sc (.string d),Aa a,Aa e,Aa f,Aa g,Aa b,Aa c],26⟩)::[]) [some (Aa (4))]) else (
bif (decide (b>c)) then (
A2 R ((0,some ⟨[AV.sc (.string d),Aa a,Aa e,Aa f,Aa g,Aa b,Aa c],26⟩)::[]) [some (Aa (3))]) else (
A2 R ((0,some ⟨[AV.sc (.string d),Aa a,Aa e,Aa f,Aa g,Aa b,Aa c],26⟩)::[]) [some (Aa (0))])))))))))
theorem wR (a:ByteArray) (b c d e f g:Int) (R:AV→Mem→Prop) (h:F20 a b c d e f g R):Own pg KK.gl 20 [AV.agg [AV.sc (.string a),Aa b,Aa c,Aa d,Aa e,Aa f,Aa g]] R:=Bk Ee Tryz.func20 (code:=Uv) Bi Bi Bi (X:=F20 a b c d e f g R) Bi h
noncomputable def c71:Code:=((Tryz.f71).body).getD .skip
noncomputable def q71 (R:AV→Mem→Prop):Bh→St→Prop:=C8 pg Tryz.f71 R
noncomputable def cA:Code:=Ey c71 0
noncomputable def eV (R:AV→Mem→Prop):Bh→St→Prop:=Ew pg KK 19 0 c71 0 (q71 R)
noncomputable def yJ (R:AV→Mem→Prop) (N0:St→Prop):Bh→St→Prop:=Ex N0 (eV R)
def Ug (a:AV) (b:ByteArray) (c d e:Int) (m:Mem):St:=⟨[(0,a),(1,(AV.sc (.string b))),(4,(Aa c)),(7,(Aa d)),(8,(Aa e))],m,100000⟩
noncomputable def dD (c:AV) (b:ByteArray) (f d a:Int) (m:Mem) (R:AV→Mem→Prop) (N0:St→Prop):Prop:=
bif (decide (a<d)) then (
Bo (Eb 1 c (Aa a)) fun e=>
Bo (Fm (Am m) e) fun g=>
Em g fun s4=>
bif ((b).toList==(s4).toList) then (
A2 R m [some (Aa a)]) else (
N0 ⟨[(0,c),(1,(AV.sc (.string b))),(4,(Aa f)),(7,(Aa d)),(8,(Aa (IntKind.wrap .i64 (a+(1))))),(9,(Ah (decide (a<d)))),(10,(Aa a)),(5,(Aa a)),(11,(AV.sc (.string b))),(12,c),(13,(Aa a)),(14,e),(15,(AV.sc (.string s4))),(16,(Ah ((b).toList==(s4).toList))),(18,(Aa (IntKind.wrap .i64 (a+(1)))))],m,100011⟩)) else (
A2 R m [some (Aa (-1))])
theorem nD (a:AV) (b:ByteArray) (c d e:Int) (m:Mem) (R:AV→Mem→Prop) (N0:St→Prop):W pg KK 19 0 cA (Ug a b c d e m) (yJ R N0)=dD a b c d e m R N0:=by kernel_rfl
theorem Ae9 (R:AV→Mem→Prop) {σ:Type} (I:σ→Prop) (a:σ→AV) (b:σ→ByteArray) (c d e:σ→Int) (m:σ→Mem) (μ:σ→Nat) (step:∀x,I x→dD (a x) (b x) (c x) (d x) (e x) (m x) R (fun s'=>∃y,I y∧μ y<μ x∧Cl KK 19 0 s' (Ug (a y) (b y) (c y) (d y) (e y) (m y)))) (x:σ) (hx:I x) {s:St} (hw:Cl KK 19 0 s (Ug (a x) (b x) (c x) (d x) (e x) (m x))):C6 pg KK 19 0 (.loop cA) s (eV R):=
 C6.He hw (C6.loops Ee I (fun x=>Ug (a x) (b x) (c x) (d x) (e x) (m x)) μ (fun x hx=>(nD (a x) (b x) (c x) (d x) (e x) (m x) R _).mpr (step x hx)) x hx)
noncomputable def F71 (a:AV) (b:ByteArray) (R:AV→Mem→Prop):Prop:=
Bo (Ed a) fun c=>
Af c fun d=>
C6 pg KK 19 0 (.loop cA) ⟨[(0,a),(1,(AV.sc (.string b))),(4,(Aa (0))),(6,a),(7,(Aa d)),(8,(Aa (0)))],[],4⟩ (eV R)
theorem rG (a:AV) (b:ByteArray) (R:AV→Mem→Prop) (h:F71 a b R):Own pg KK.gl 71 [a,AV.sc (.string b)] R:=Bk Ee Tryz.func71 (code:=c71) Bi Bi Bi (X:=F71 a b R) Bi h
noncomputable def fY:Code:=((Tryz.f55).body).getD .skip
noncomputable def q55 (R:AV→Mem→Prop):Bh→St→Prop:=C8 pg Tryz.f55 R
noncomputable def F55 (a:ByteArray) (R:AV→Mem→Prop):Prop:=
Bo (Cs pg (.slice 121 (.tmp 0) none none none) 120 [Bp 1] (Am []) 1) fun b=>
Bd pg KK.gl [] 71 [b,AV.sc (.string a)] fun c=>
Af c fun d=>
A2 R [] [some (Aa d)]
theorem sR (a:ByteArray) (R:AV→Mem→Prop) (h:F55 a R):Own pg KK.gl 55 [AV.sc (.string a)] R:=Bk Ee Tryz.func55 (code:=fY) Bi Bi Bi (X:=F55 a R) Bi h
noncomputable def zE:Code:=((Tryz.f40).body).getD .skip
noncomputable def q40 (R:AV→Mem→Prop):Bh→St→Prop:=C8 pg Tryz.f40 R
noncomputable def F40 (a:ByteArray) (R:AV→Mem→Prop):Prop:=
Bd pg KK.gl [] 37 [AV.sc (.string a)] fun b=>
Hr b fun c=>
bif c then (
Bd pg KK.gl [] 55 [AV.sc (.string a)] fun d=>
Af d fun e=>
A2 R [] [some (Ah (decide (e<(0))))]) else (
A2 R [] [some (Ah false)])
theorem wT (a:ByteArray) (R:AV→Mem→Prop) (h:F40 a R):Own pg KK.gl 40 [AV.sc (.string a)] R:=Bk Ee Tryz.func40 (code:=zE) Bi Bi Bi (X:=F40 a R) Bi h
noncomputable def Z1:Code:=((Tryz.f22).body).getD .skip
noncomputable def q22 (R:AV→Mem→Prop):Bh→St→Prop:=C8 pg Tryz.f22 R
noncomputable def F22 (d:ByteArray) (a b:Int) (c:ByteArray) (R:AV→Mem→Prop):Prop:=
Bd pg KK.gl ((0,some ⟨[AV.sc (.string d),Aa a,Aa b,AV.sc (.string c)],30⟩)::[]) 40 [AV.sc (.string d)] fun e=>
Hr e fun f=>
bif (!f) then (
A2 R ((0,some ⟨[AV.sc (.string d),Aa a,Aa b,AV.sc (.string c)],30⟩)::[]) [some (Aa (3))]) else (
bif (decide (a<(0))) then (
A2 R ((0,some ⟨[AV.sc (.string d),Aa a,Aa b,AV.sc (.string c)],30⟩)::[]) [some (Aa (1))]) else (
bif (decide (a>(6))) then (
A2 R ((0,some ⟨[AV.sc (.string d),Aa a,Aa b,AV.sc (.string c)],30⟩)::[]) [some (Aa (1))]) else (
bif (decide (a>(2))) then (
bif (b !=(0)) then (
A2 R ((0,some ⟨[AV.sc (.string d),Aa a,Aa b,AV.sc (.string c)],30⟩)::[]) [some (Aa (3))]) else (
Bd pg KK.gl ((0,some ⟨[AV.sc (.string d),Aa a,Aa b,AV.sc (.string c)],30⟩)::[]) 40 [AV.sc (.string c)] fun g=>
Hr g fun h=>
bif (!h) then (
A2 R ((0,some ⟨[AV.sc (.string d),Aa a,Aa b,AV.sc (.string c)],30⟩)::[]) [some (Aa (3))]) else (
A2 R ((0,some ⟨[AV.sc (.string d),Aa a,Aa b,AV.sc (.string c)],30⟩)::[]) [some (Aa (0))]))) else (
bif (!((c).toList==((⟨#[]⟩:ByteArray)).toList)) then (
A2 R ((0,some ⟨[AV.sc (.string d),Aa a,Aa b,AV.sc (.string c)],30⟩)::[]) [some (Aa (3))]) else (
bif (decide (b<(0))) then (
A2 R ((0,some ⟨[AV.sc (.string d),Aa a,Aa b,AV.sc (.string c)],30⟩)::[]) [some (Aa (4))]) else (
Bo (aM 3 1 (Bp 0) (Aa a)) fun i=>
Bo (Fm (Am ((0,some ⟨[AV.sc (.string d),Aa a,Aa b,AV.sc (.string c)],30⟩)::[])) i) fun j=>
Af j fun k=>
bif (decide (b>k)) then (
A2 R ((0,some ⟨[AV.sc (.string d),Aa a,Aa b,AV.sc (.string c)],30⟩)::[]) [some (Aa (4))]) else (
A2 R ((0,some ⟨[AV.sc (.string d),Aa a,Aa b,AV.sc (.string c)],30⟩)::[]) [some (Aa (0))])))))))
theorem tR (a:ByteArray) (b c:Int) (d:ByteArray) (R:AV→Mem→Prop) (h:F22 a b c d R):Own pg KK.gl 22 [AV.agg [AV.sc (.string a),Aa b,Aa c,AV.sc (.string d)]] R:=Bk Ee Tryz.func22 (code:=Z1) Bi Bi Bi (X:=F22 a b c d R) Bi h
noncomputable def Zn:Code:=((Tryz.f23).body).getD .skip
noncomputable def q23 (R:AV→Mem→Prop):Bh→St→Prop:=C8 pg Tryz.f23 R
noncomputable def cH:Code:=Ey Zn 0
noncomputable def eA (R:AV→Mem→Prop):Bh→St→Prop:=Ew pg KK 60 0 Zn 0 (q23 R)
noncomputable def Aaq (R:AV→Mem→Prop) (N0:St→Prop):Bh→St→Prop:=Ex N0 (eA R)
def Ud (a b:Int) (c:Bool) (d:AV) (e f g h i j k l:Int) (m:Mem):St:=⟨[(3,(AV.ptr 0 0)),(4,(Aa a)),(5,(Aa b)),(6,(Ah c)),(13,d),(14,(Aa e)),(15,(Aa f))],((0,some ⟨[Aa g,Aa h,Aa i,Aa j,Aa k,Aa l],47⟩)::m),100000⟩
noncomputable def bZ (r s:Int) (t:Bool) (p:AV) (o n a c d g h i:Int) (m:Mem) (R:AV→Mem→Prop) (N0:St→Prop):Prop:=
bif (decide (n<o)) then (
Bo (Eb 6 p (Aa n)) fun q=>
Bo (Iv (Am ((0,some ⟨[Aa a,Aa c,Aa d,Aa g,Aa h,Aa i],47⟩)::m)) 6 q) fun u=>
Ji u fun v c5 c6 c7 c8 c9=>
Af v fun b=>
Af c5 fun e=>
Af c6 fun f=>
Af c7 fun j=>
Af c8 fun k=>
Af c9 fun l=>
bif (decide (b>a)) then (
Bd pg KK.gl ((100003,some ⟨[Aa b,Aa e,Aa f,Aa j,Aa k,Aa l],47⟩)::(100003,some ⟨[Aa (0),Aa (0),Aa (0),Aa (0),Aa (0),Aa (0)],47⟩)::(0,some ⟨[Aa a,Aa c,Aa d,Aa g,Aa h,Aa i],47⟩)::m) 42 [AV.agg [Aa e,Aa f],AV.agg [Aa c,Aa d]] fun w=>
I3 w fun Gx oY=>
Af Gx fun x=>
Af oY fun y=>
Bd pg KK.gl ((100003,some ⟨[Aa b,Aa e,Aa f,Aa j,Aa k,Aa l],47⟩)::(100003,some ⟨[Aa (0),Aa (0),Aa (0),Aa (0),Aa (0),Aa (0)],47⟩)::(0,some ⟨[Aa a,Aa c,Aa d,Aa g,Aa h,Aa i],47⟩)::m) 41 [AV.agg [Aa x,Aa y]] fun z=>
Fs z fun Z1 Zn=>
Af Z1 fun aa=>
Af Zn fun ab=>
Bd pg KK.gl ((100003,some ⟨[Aa b,Aa e,Aa f,Aa j,Aa k,Aa l],47⟩)::(100003,some ⟨[Aa (0),Aa (0),Aa (0),Aa (0),Aa (0),Aa (0)],47⟩)::(0,some ⟨[Aa a,Aa c,Aa d,Aa g,Aa h,Aa i],47⟩)::m) 43 [AV.agg [Aa c,Aa d],AV.agg [Aa e,Aa f]] fun ad=>
Fs ad fun S6 Qh=>
Af S6 fun ae=>
Af Qh fun ah=>
Bo (Cs pg (.binOp .quo 3 (.tmp 0) (.tmp 1) 3) 3 [Aa ae,Aa (IntKind.wrap .i64 (b-a))] (Am ((100003,some ⟨[Aa b,Aa e,Aa f,Aa j,Aa k,Aa l],47⟩)::(100003,some ⟨[Aa (0),Aa (0),Aa (0),Aa (0),Aa (0),Aa (0)],47⟩)::(0,some ⟨[Aa a,Aa c,Aa d,Aa g,Aa h,Aa i],47⟩)::m)) 100235) fun af=>
Af af fun ag=>
A2 R ((100003,some ⟨[Aa b,Aa e,Aa f,Aa j,Aa k,Aa l],47⟩)::(100003,some ⟨[Aa (0),Aa (0),Aa (0),Aa (0),Aa (0),Aa (0)],47⟩)::(0,some ⟨[Aa a,Aa c,Aa d,Aa g,Aa h,Aa i],47⟩)::m) [some (Aa aa),some (Aa ag),some (Ah (ab==(0)))]) else (
N0 ⟨[(3,(AV.ptr 0 0)),(4,(Aa r)),(5,(Aa s)),(6,(Ah t)),(13,p),(14,(Aa o)),(15,(Aa (IntKind.wrap .i64 (n+(1))))),(16,(Ah (decide (n<o)))),(17,q),(18,(AV.agg [Aa b,Aa e,Aa f,Aa j,Aa k,Aa l])),(8,(AV.ptr 100003 0)),(19,(AV.ptr 100003 0)),(20,(AV.ptr 100003 0)),(21,(Aa b)),(22,(AV.ptr 0 0)),(23,(AV.ptr 0 0)),(24,(Aa a)),(25,(Ah (decide (b>a)))),(59,(Aa (IntKind.wrap .i64 (n+(1)))))],((100003,some ⟨[Aa b,Aa e,Aa f,Aa j,Aa k,Aa l],47⟩)::(100003,some ⟨[Aa (0),Aa (0),Aa (0),Aa (0),Aa (0),Aa (0)],47⟩)::(0,some ⟨[Aa a,Aa c,Aa d,Aa g,Aa h,Aa i],47⟩)::m),100014⟩)) else (
A2 R ((0,some ⟨[Aa a,Aa c,Aa d,Aa g,Aa h,Aa i],47⟩)::m) [some (Aa (0)),some (Aa (0)),some (Ah false)])
theorem iW (a b:Int) (c:Bool) (d:AV) (e f g h i j k l:Int) (m:Mem) (R:AV→Mem→Prop) (N0:St→Prop):W pg KK 60 0 cH (Ud a b c d e f g h i j k l m) (Aaq R N0)=bZ a b c d e f g h i j k l m R N0:=by kernel_rfl
theorem Aev (R:AV→Mem→Prop) {σ:Type} (I:σ→Prop) (a b:σ→Int) (c:σ→Bool) (d:σ→AV) (e f g h i j k l:σ→Int) (m:σ→Mem) (μ:σ→Nat) (step:∀x,I x→bZ (a x) (b x) (c x) (d x) (e x) (f x) (g x) (h x) (i x) (j x) (k x) (l x) (m x) R (fun s'=>∃y,I y∧μ y<μ x∧Cl KK 60 0 s' (Ud (a y) (b y) (c y) (d y) (e y) (f y) (g y) (h y) (i y) (j y) (k y) (l y) (m y)))) (x:σ) (hx:I x) {s:St} (hw:Cl KK 60 0 s (Ud (a x) (b x) (c x) (d x) (e x) (f x) (g x) (h x) (i x) (j x) (k x) (l x) (m x))):C6 pg KK 60 0 (.loop cH) s (eA R):=
 C6.He hw (C6.loops Ee I (fun x=>Ud (a x) (b x) (c x) (d x) (e x) (f x) (g x) (h x) (i x) (j x) (k x) (l x) (m x)) μ (fun x hx=>(iW (a x) (b x) (c x) (d x) (e x) (f x) (g x) (h x) (i x) (j x) (k x) (l x) (m x) R _).mpr (step x hx)) x hx)
noncomputable def F23 (a:AV) (b c d e f g:Int) (R:AV→Mem→Prop):Prop:=
Bo (Ed a) fun h=>
Af h fun i=>
C6 pg KK 60 0 (.loop cH) ⟨[(0,a),(1,(AV.agg [Aa b,Aa c,Aa d,Aa e,Aa f,Aa g])),(3,(AV.ptr 0 0)),(4,(Aa (0))),(5,(Aa (0))),(6,(Ah false)),(13,a),(14,(Aa i)),(15,(Aa (0)))],((0,some ⟨[Aa b,Aa c,Aa d,Aa e,Aa f,Aa g],47⟩)::[]),7⟩ (eA R)
theorem tQ (a:AV) (b c d e f g:Int) (R:AV→Mem→Prop) (h:F23 a b c d e f g R):Own pg KK.gl 23 [a,AV.agg [Aa b,Aa c,Aa d,Aa e,Aa f,Aa g]] R:=Bk Ee Tryz.func23 (code:=Zn) Bi Bi Bi (X:=F23 a b c d e f g R) Bi h
noncomputable def c7:Code:=((Tryz.f7).body).getD .skip
noncomputable def q7 (R:AV→Mem→Prop):Bh→St→Prop:=C8 pg Tryz.f7 R
noncomputable def S2:Code:=Ey c7 0
noncomputable def sB (R:AV→Mem→Prop):Bh→St→Prop:=Ew pg KK 138 0 c7 0 (q7 R)
noncomputable def dP (R:AV→Mem→Prop) (N0:St→Prop):Bh→St→Prop:=Ex N0 (sB R)
def Qk (a:AV) (b c d:Int) (e:Bool) (f:Int) (g:ByteArray) (h i j k l n o p q r s t:Int) (u:AV) (v:ByteArray) (m:Mem):St:=⟨[(7,(AV.ptr 1 0)),(8,a),(9,(Aa b)),(12,(AV.ptr 209 0)),(15,(Aa c)),(16,(Aa d)),(17,(Ah e)),(18,(AV.ptr 356 0)),(19,(AV.fn 24 [AV.ptr 356 0,AV.ptr 0 0])),(20,(Aa f))],((1,some ⟨[AV.sc (.string g),Aa h,Aa i,Aa j,Aa k,Aa l,Aa n],26⟩)::(209,some ⟨[Aa o,Aa p,Aa q,Aa r,Aa s,Aa t],47⟩)::(356,some ⟨[u],36⟩)::(0,some ⟨[AV.sc (.string v)],9⟩)::m),100000⟩
noncomputable def Wk:Code:=Ey S2 0
noncomputable def We (R:AV→Mem→Prop) (N0:St→Prop):Bh→St→Prop:=Ew pg KK 138 0 S2 0 (dP R N0)
noncomputable def wQ (R:AV→Mem→Prop) (N0 N1:St→Prop):Bh→St→Prop:=Ex N1 (We R N0)
def Ox (a:AV) (b c d:Int) (e:Bool) (f:Int) (g:AV) (h:Int) (i:ByteArray) (j k l n o p q r s t u v:Int) (w:AV) (x:ByteArray) (m:Mem):St:=⟨[(7,(AV.ptr 1 0)),(8,a),(9,(Aa b)),(12,(AV.ptr 209 0)),(15,(Aa c)),(16,(Aa d)),(17,(Ah e)),(18,(AV.ptr 356 0)),(19,(AV.fn 24 [AV.ptr 356 0,AV.ptr 0 0])),(20,(Aa f)),(76,g),(77,(Aa h))],((1,some ⟨[AV.sc (.string i),Aa j,Aa k,Aa l,Aa n,Aa o,Aa p],26⟩)::(209,some ⟨[Aa q,Aa r,Aa s,Aa t,Aa u,Aa v],47⟩)::(356,some ⟨[w],36⟩)::(0,some ⟨[AV.sc (.string x)],9⟩)::m),200000⟩
noncomputable def Vr:Code:=Ey S2 1
noncomputable def V7 (R:AV→Mem→Prop) (N0:St→Prop):Bh→St→Prop:=Ew pg KK 138 0 S2 1 (dP R N0)
noncomputable def pY (R:AV→Mem→Prop) (N0 N1:St→Prop):Bh→St→Prop:=Ex N1 (V7 R N0)
def Oz (a:AV) (b c d:Int) (e:Bool) (f:Int) (g:AV) (h:Int) (i:ByteArray) (j k l n o p q r s t u v:Int) (w:AV) (x:ByteArray) (m:Mem):St:=⟨[(7,(AV.ptr 1 0)),(8,a),(9,(Aa b)),(12,(AV.ptr 209 0)),(15,(Aa c)),(16,(Aa d)),(17,(Ah e)),(18,(AV.ptr 356 0)),(19,(AV.fn 24 [AV.ptr 356 0,AV.ptr 0 0])),(20,(Aa f)),(102,g),(103,(Aa h))],((1,some ⟨[AV.sc (.string i),Aa j,Aa k,Aa l,Aa n,Aa o,Aa p],26⟩)::(209,some ⟨[Aa q,Aa r,Aa s,Aa t,Aa u,Aa v],47⟩)::(356,some ⟨[w],36⟩)::(0,some ⟨[AV.sc (.string x)],9⟩)::m),300000⟩
noncomputable def V0:Code:=Ey S2 2
noncomputable def Vj (R:AV→Mem→Prop) (N0:St→Prop):Bh→St→Prop:=Ew pg KK 138 0 S2 2 (dP R N0)
noncomputable def rT (R:AV→Mem→Prop) (N0 N1:St→Prop):Bh→St→Prop:=Ex N1 (Vj R N0)
def Ol (a:AV) (b c d:Int) (e:Bool) (f:Int) (g:AV) (h:Int) (i:ByteArray) (j k l n o p q r s t u v:Int) (w:AV) (x:ByteArray) (m:Mem):St:=⟨[(7,(AV.ptr 1 0)),(8,a),(9,(Aa b)),(12,(AV.ptr 209 0)),(15,(Aa c)),(16,(Aa d)),(17,(Ah e)),(18,(AV.ptr 356 0)),(19,(AV.fn 24 [AV.ptr 356 0,AV.ptr 0 0])),(20,(Aa f)),(128,g),(129,(Aa h))],((1,some ⟨[AV.sc (.string i),Aa j,Aa k,Aa l,Aa n,Aa o,Aa p],26⟩)::(209,some ⟨[Aa q,Aa r,Aa s,Aa t,Aa u,Aa v],47⟩)::(356,some ⟨[w],36⟩)::(0,some ⟨[AV.sc (.string x)],9⟩)::m),400000⟩
noncomputable def qD (r:AV) (s t u:Int) (v:Bool) (a:Int) (d:ByteArray) (e f g h i j k l n b o p:Int) (c:AV) (q:ByteArray) (m:Mem) (R:AV→Mem→Prop) (N0:St→Prop):Prop:=
bif (decide (a≤(3))) then (
Bo (Cs pg (.build 66 #[(0,.tmp 0),(1,.tmp 1)]) 66 [Aa (IntKind.wrap .i64 (b+(IntKind.wrap .i64 ((1000)*a)))),Aa (IntKind.wrap .i64 (b-(IntKind.wrap .i64 ((1000)*a))))] (Am ((1,some ⟨[AV.sc (.string d),Aa e,Aa f,Aa g,Aa h,Aa i,Aa j],26⟩)::(209,some ⟨[Aa k,Aa l,Aa n,Aa b,Aa o,Aa p],47⟩)::(356,some ⟨[c],36⟩)::(0,some ⟨[AV.sc (.string q)],9⟩)::m)) 100014) fun w=>
C6 pg KK 138 0 (.loop Wk) ⟨[(7,(AV.ptr 1 0)),(8,r),(9,(Aa s)),(12,(AV.ptr 209 0)),(15,(Aa t)),(16,(Aa u)),(17,(Ah v)),(18,(AV.ptr 356 0)),(19,(AV.fn 24 [AV.ptr 356 0,AV.ptr 0 0])),(20,(Aa a)),(60,(Aa a)),(61,(Ah (decide (a≤(3))))),(64,(AV.ptr 209 0)),(65,(AV.ptr 209 3)),(66,(Aa b)),(67,(Aa a)),(68,(Aa (IntKind.wrap .i64 ((1000)*a)))),(69,(Aa (IntKind.wrap .i64 (b+(IntKind.wrap .i64 ((1000)*a)))))),(70,(AV.ptr 209 0)),(71,(AV.ptr 209 3)),(72,(Aa b)),(73,(Aa a)),(74,(Aa (IntKind.wrap .i64 ((1000)*a)))),(75,(Aa (IntKind.wrap .i64 (b-(IntKind.wrap .i64 ((1000)*a)))))),(76,w),(77,(Aa (0)))],((1,some ⟨[AV.sc (.string d),Aa e,Aa f,Aa g,Aa h,Aa i,Aa j],26⟩)::(209,some ⟨[Aa k,Aa l,Aa n,Aa b,Aa o,Aa p],47⟩)::(356,some ⟨[c],36⟩)::(0,some ⟨[AV.sc (.string q)],9⟩)::m),100016⟩ (We R N0)) else (
A2 R ((1,some ⟨[AV.sc (.string d),Aa e,Aa f,Aa g,Aa h,Aa i,Aa j],26⟩)::(209,some ⟨[Aa k,Aa l,Aa n,Aa b,Aa o,Aa p],47⟩)::(356,some ⟨[c],36⟩)::(0,some ⟨[AV.sc (.string q)],9⟩)::m) [some c,some (Aa (0))])
theorem qI (a:AV) (b c d:Int) (e:Bool) (f:Int) (g:ByteArray) (h i j k l n o p q r s t:Int) (u:AV) (v:ByteArray) (m:Mem) (R:AV→Mem→Prop) (N0:St→Prop):W pg KK 138 0 S2 (Qk a b c d e f g h i j k l n o p q r s t u v m) (dP R N0)=qD a b c d e f g h i j k l n o p q r s t u v m R N0:=by kernel_rfl
theorem Ago (R:AV→Mem→Prop) {σ:Type} (I:σ→Prop) (a:σ→AV) (b c d:σ→Int) (e:σ→Bool) (f:σ→Int) (g:σ→ByteArray) (h i j k l n o p q r t u:σ→Int) (v:σ→AV) (w:σ→ByteArray) (m:σ→Mem) (μ:σ→Nat) (step:∀x,I x→qD (a x) (b x) (c x) (d x) (e x) (f x) (g x) (h x) (i x) (j x) (k x) (l x) (n x) (o x) (p x) (q x) (r x) (t x) (u x) (v x) (w x) (m x) R (fun s'=>∃y,I y∧μ y<μ x∧Cl KK 138 0 s' (Qk (a y) (b y) (c y) (d y) (e y) (f y) (g y) (h y) (i y) (j y) (k y) (l y) (n y) (o y) (p y) (q y) (r y) (t y) (u y) (v y) (w y) (m y)))) (x:σ) (hx:I x) {s:St} (hw:Cl KK 138 0 s (Qk (a x) (b x) (c x) (d x) (e x) (f x) (g x) (h x) (i x) (j x) (k x) (l x) (n x) (o x) (p x) (q x) (r x) (t x) (u x) (v x) (w x) (m x))):C6 pg KK 138 0 (.loop S2) s (sB R):=
 C6.He hw (C6.loops Ee I (fun x=>Qk (a x) (b x) (c x) (d x) (e x) (f x) (g x) (h x) (i x) (j x) (k x) (l x) (n x) (o x) (p x) (q x) (r x) (t x) (u x) (v x) (w x) (m x)) μ (fun x hx=>(qI (a x) (b x) (c x) (d x) (e x) (f x) (g x) (h x) (i x) (j x) (k x) (l x) (n x) (o x) (p x) (q x) (r x) (t x) (u x) (v x) (w x) (m x) R _).mpr (step x hx)) x hx)
noncomputable def Vg (w:AV) (x y e:Int) (f:Bool) (b:Int) (v:AV) (c:Int) (g:ByteArray) (h d i j k l n o p q r s:Int) (t:AV) (u:ByteArray) (m:Mem) (R:AV→Mem→Prop) (N0 N1:St→Prop):Prop:=
bif (decide (c<(2))) then (
Bo (Cs pg (.index 66 (.tmp 0) (.tmp 1)) 3 [v,Aa c] (Am ((1,some ⟨[AV.sc (.string g),Aa h,Aa d,Aa i,Aa j,Aa k,Aa l],26⟩)::(209,some ⟨[Aa n,Aa o,Aa p,Aa q,Aa r,Aa s],47⟩)::(356,some ⟨[t],36⟩)::(0,some ⟨[AV.sc (.string u)],9⟩)::m)) 200001) fun z=>
Af z fun a=>
bif (decide (a≥(0))) then (
bif (decide (a≤d)) then (
Ez pg KK.gl ((1,some ⟨[AV.sc (.string g),Aa h,Aa d,Aa i,Aa j,Aa k,Aa l],26⟩)::(209,some ⟨[Aa n,Aa o,Aa p,Aa q,Aa r,Aa s],47⟩)::(356,some ⟨[t],36⟩)::(0,some ⟨[AV.sc (.string u)],9⟩)::m) 200013 24 [Aa (0),Aa a,AV.ptr 356 0,AV.ptr 0 0] fun aa ab=>
X5 aa<|
N1 ⟨[(7,(AV.ptr 1 0)),(8,w),(9,(Aa x)),(12,(AV.ptr 209 0)),(15,(Aa y)),(16,(Aa e)),(17,(Ah f)),(18,(AV.ptr 356 0)),(19,(AV.fn 24 [AV.ptr 356 0,AV.ptr 0 0])),(20,(Aa b)),(76,v),(77,(Aa (IntKind.wrap .i64 (c+(1))))),(78,(Ah (decide (c<(2))))),(79,(Aa a)),(22,(Aa a)),(80,(Aa a)),(81,(Ah (decide (a≥(0))))),(82,(Ah true)),(83,(Aa a)),(84,(AV.ptr 1 2)),(85,(Aa d)),(86,(Ah (decide (a≤d)))),(87,(Ah (decide (a≤d)))),(88,(AV.fn 24 [AV.ptr 356 0,AV.ptr 0 0])),(89,(Aa a)),(90,(AV.B4 [])),(91,(Aa (IntKind.wrap .i64 (c+(1)))))],ab,200079⟩) else (
N1 ⟨[(7,(AV.ptr 1 0)),(8,w),(9,(Aa x)),(12,(AV.ptr 209 0)),(15,(Aa y)),(16,(Aa e)),(17,(Ah f)),(18,(AV.ptr 356 0)),(19,(AV.fn 24 [AV.ptr 356 0,AV.ptr 0 0])),(20,(Aa b)),(76,v),(77,(Aa (IntKind.wrap .i64 (c+(1))))),(78,(Ah (decide (c<(2))))),(79,(Aa a)),(22,(Aa a)),(80,(Aa a)),(81,(Ah (decide (a≥(0))))),(82,(Ah true)),(83,(Aa a)),(84,(AV.ptr 1 2)),(85,(Aa d)),(86,(Ah (decide (a≤d)))),(87,(Ah (decide (a≤d)))),(91,(Aa (IntKind.wrap .i64 (c+(1)))))],((1,some ⟨[AV.sc (.string g),Aa h,Aa d,Aa i,Aa j,Aa k,Aa l],26⟩)::(209,some ⟨[Aa n,Aa o,Aa p,Aa q,Aa r,Aa s],47⟩)::(356,some ⟨[t],36⟩)::(0,some ⟨[AV.sc (.string u)],9⟩)::m),200013⟩)) else (
N1 ⟨[(7,(AV.ptr 1 0)),(8,w),(9,(Aa x)),(12,(AV.ptr 209 0)),(15,(Aa y)),(16,(Aa e)),(17,(Ah f)),(18,(AV.ptr 356 0)),(19,(AV.fn 24 [AV.ptr 356 0,AV.ptr 0 0])),(20,(Aa b)),(76,v),(77,(Aa (IntKind.wrap .i64 (c+(1))))),(78,(Ah (decide (c<(2))))),(79,(Aa a)),(22,(Aa a)),(80,(Aa a)),(81,(Ah (decide (a≥(0))))),(82,(Ah false)),(83,(AV.B4 [])),(84,(AV.B4 [])),(85,(AV.B4 [])),(86,(AV.B4 [])),(87,(Ah false)),(91,(Aa (IntKind.wrap .i64 (c+(1)))))],((1,some ⟨[AV.sc (.string g),Aa h,Aa d,Aa i,Aa j,Aa k,Aa l],26⟩)::(209,some ⟨[Aa n,Aa o,Aa p,Aa q,Aa r,Aa s],47⟩)::(356,some ⟨[t],36⟩)::(0,some ⟨[AV.sc (.string u)],9⟩)::m),200009⟩)) else (
bif (!f) then (
N0 ⟨[(7,(AV.ptr 1 0)),(8,w),(9,(Aa x)),(12,(AV.ptr 209 0)),(15,(Aa y)),(16,(Aa e)),(17,(Ah f)),(18,(AV.ptr 356 0)),(19,(AV.fn 24 [AV.ptr 356 0,AV.ptr 0 0])),(20,(Aa (IntKind.wrap .i64 (b+(1))))),(76,v),(77,(Aa c)),(78,(Ah (decide (c<(2))))),(92,(Ah f)),(93,(Ah (!f))),(62,(Aa b)),(63,(Aa (IntKind.wrap .i64 (b+(1)))))],((1,some ⟨[AV.sc (.string g),Aa h,Aa d,Aa i,Aa j,Aa k,Aa l],26⟩)::(209,some ⟨[Aa n,Aa o,Aa p,Aa q,Aa r,Aa s],47⟩)::(356,some ⟨[t],36⟩)::(0,some ⟨[AV.sc (.string u)],9⟩)::m),200006⟩) else (
Bo (Cs pg (.build 66 #[(0,.tmp 0),(1,.tmp 1)]) 66 [Aa (IntKind.wrap .i64 (e+(IntKind.wrap .i64 ((15)*b)))),Aa (IntKind.wrap .i64 (e-(IntKind.wrap .i64 ((15)*b))))] (Am ((1,some ⟨[AV.sc (.string g),Aa h,Aa d,Aa i,Aa j,Aa k,Aa l],26⟩)::(209,some ⟨[Aa n,Aa o,Aa p,Aa q,Aa r,Aa s],47⟩)::(356,some ⟨[t],36⟩)::(0,some ⟨[AV.sc (.string u)],9⟩)::m)) 200011) fun ad=>
C6 pg KK 138 0 (.loop Vr) ⟨[(7,(AV.ptr 1 0)),(8,w),(9,(Aa x)),(12,(AV.ptr 209 0)),(15,(Aa y)),(16,(Aa e)),(17,(Ah f)),(18,(AV.ptr 356 0)),(19,(AV.fn 24 [AV.ptr 356 0,AV.ptr 0 0])),(20,(Aa b)),(76,v),(77,(Aa c)),(78,(Ah (decide (c<(2))))),(92,(Ah f)),(93,(Ah (!f))),(94,(Aa e)),(95,(Aa b)),(96,(Aa (IntKind.wrap .i64 ((15)*b)))),(97,(Aa (IntKind.wrap .i64 (e+(IntKind.wrap .i64 ((15)*b)))))),(98,(Aa e)),(99,(Aa b)),(100,(Aa (IntKind.wrap .i64 ((15)*b)))),(101,(Aa (IntKind.wrap .i64 (e-(IntKind.wrap .i64 ((15)*b)))))),(102,ad),(103,(Aa (0)))],((1,some ⟨[AV.sc (.string g),Aa h,Aa d,Aa i,Aa j,Aa k,Aa l],26⟩)::(209,some ⟨[Aa n,Aa o,Aa p,Aa q,Aa r,Aa s],47⟩)::(356,some ⟨[t],36⟩)::(0,some ⟨[AV.sc (.string u)],9⟩)::m),200013⟩ (V7 R N0)))
theorem fW (a:AV) (b c d:Int) (e:Bool) (f:Int) (g:AV) (h:Int) (i:ByteArray) (j k l n o p q r s t u v:Int) (w:AV) (x:ByteArray) (m:Mem) (R:AV→Mem→Prop) (N0 N1:St→Prop):W pg KK 138 0 Wk (Ox a b c d e f g h i j k l n o p q r s t u v w x m) (wQ R N0 N1)=Vg a b c d e f g h i j k l n o p q r s t u v w x m R N0 N1:=by kernel_rfl
theorem yD (R:AV→Mem→Prop) (N0:St→Prop) {σ:Type} (I:σ→Prop) (a:σ→AV) (b c d:σ→Int) (e:σ→Bool) (f:σ→Int) (g:σ→AV) (h:σ→Int) (i:σ→ByteArray) (j k l n o p q r t u v w:σ→Int) (z:σ→AV) (aa:σ→ByteArray) (m:σ→Mem) (μ:σ→Nat) (step:∀x,I x→Vg (a x) (b x) (c x) (d x) (e x) (f x) (g x) (h x) (i x) (j x) (k x) (l x) (n x) (o x) (p x) (q x) (r x) (t x) (u x) (v x) (w x) (z x) (aa x) (m x) R N0 (fun s'=>∃y,I y∧μ y<μ x∧Cl KK 138 0 s' (Ox (a y) (b y) (c y) (d y) (e y) (f y) (g y) (h y) (i y) (j y) (k y) (l y) (n y) (o y) (p y) (q y) (r y) (t y) (u y) (v y) (w y) (z y) (aa y) (m y)))) (x:σ) (hx:I x) {s:St} (hw:Cl KK 138 0 s (Ox (a x) (b x) (c x) (d x) (e x) (f x) (g x) (h x) (i x) (j x) (k x) (l x) (n x) (o x) (p x) (q x) (r x) (t x) (u x) (v x) (w x) (z x) (aa x) (m x))):C6 pg KK 138 0 (.loop Wk) s (We R N0):=
 C6.He hw (C6.loops Ee I (fun x=>Ox (a x) (b x) (c x) (d x) (e x) (f x) (g x) (h x) (i x) (j x) (k x) (l x) (n x) (o x) (p x) (q x) (r x) (t x) (u x) (v x) (w x) (z x) (aa x) (m x)) μ (fun x hx=>(fW (a x) (b x) (c x) (d x) (e x) (f x) (g x) (h x) (i x) (j x) (k x) (l x) (n x) (o x) (p x) (q x) (r x) (t x) (u x) (v x) (w x) (z x) (aa x) (m x) R N0 _).mpr (step x hx)) x hx)
noncomputable def Wb (v:AV) (w f x:Int) (y:Bool) (e:Int) (u:AV) (b:Int) (g:ByteArray) (h i j k c d l n o p q r:Int) (s:AV) (t:ByteArray) (m:Mem) (R:AV→Mem→Prop) (N0 N1:St→Prop):Prop:=
bif (decide (b<(2))) then (
Bo (Cs pg (.index 66 (.tmp 0) (.tmp 1)) 3 [u,Aa b] (Am ((1,some ⟨[AV.sc (.string g),Aa h,Aa i,Aa j,Aa k,Aa c,Aa d],26⟩)::(209,some ⟨[Aa l,Aa n,Aa o,Aa p,Aa q,Aa r],47⟩)::(356,some ⟨[s],36⟩)::(0,some ⟨[AV.sc (.string t)],9⟩)::m)) 300001) fun z=>
Af z fun a=>
bif (decide (a≥c)) then (
bif (decide (a≤d)) then (
Ez pg KK.gl ((1,some ⟨[AV.sc (.string g),Aa h,Aa i,Aa j,Aa k,Aa c,Aa d],26⟩)::(209,some ⟨[Aa l,Aa n,Aa o,Aa p,Aa q,Aa r],47⟩)::(356,some ⟨[s],36⟩)::(0,some ⟨[AV.sc (.string t)],9⟩)::m) 300015 24 [Aa (2),Aa a,AV.ptr 356 0,AV.ptr 0 0] fun aa ab=>
X5 aa<|
N1 ⟨[(7,(AV.ptr 1 0)),(8,v),(9,(Aa w)),(12,(AV.ptr 209 0)),(15,(Aa f)),(16,(Aa x)),(17,(Ah y)),(18,(AV.ptr 356 0)),(19,(AV.fn 24 [AV.ptr 356 0,AV.ptr 0 0])),(20,(Aa e)),(102,u),(103,(Aa (IntKind.wrap .i64 (b+(1))))),(104,(Ah (decide (b<(2))))),(105,(Aa a)),(24,(Aa a)),(106,(Aa a)),(107,(AV.ptr 1 5)),(108,(Aa c)),(109,(Ah (decide (a≥c)))),(110,(Ah true)),(111,(Aa a)),(112,(AV.ptr 1 6)),(113,(Aa d)),(114,(Ah (decide (a≤d)))),(115,(Ah (decide (a≤d)))),(116,(AV.fn 24 [AV.ptr 356 0,AV.ptr 0 0])),(117,(Aa a)),(118,(AV.B4 [])),(119,(Aa (IntKind.wrap .i64 (b+(1)))))],ab,300081⟩) else (
N1 ⟨[(7,(AV.ptr 1 0)),(8,v),(9,(Aa w)),(12,(AV.ptr 209 0)),(15,(Aa f)),(16,(Aa x)),(17,(Ah y)),(18,(AV.ptr 356 0)),(19,(AV.fn 24 [AV.ptr 356 0,AV.ptr 0 0])),(20,(Aa e)),(102,u),(103,(Aa (IntKind.wrap .i64 (b+(1))))),(104,(Ah (decide (b<(2))))),(105,(Aa a)),(24,(Aa a)),(106,(Aa a)),(107,(AV.ptr 1 5)),(108,(Aa c)),(109,(Ah (decide (a≥c)))),(110,(Ah true)),(111,(Aa a)),(112,(AV.ptr 1 6)),(113,(Aa d)),(114,(Ah (decide (a≤d)))),(115,(Ah (decide (a≤d)))),(119,(Aa (IntKind.wrap .i64 (b+(1)))))],((1,some ⟨[AV.sc (.string g),Aa h,Aa i,Aa j,Aa k,Aa c,Aa d],26⟩)::(209,some ⟨[Aa l,Aa n,Aa o,Aa p,Aa q,Aa r],47⟩)::(356,some ⟨[s],36⟩)::(0,some ⟨[AV.sc (.string t)],9⟩)::m),300015⟩)) else (
N1 ⟨[(7,(AV.ptr 1 0)),(8,v),(9,(Aa w)),(12,(AV.ptr 209 0)),(15,(Aa f)),(16,(Aa x)),(17,(Ah y)),(18,(AV.ptr 356 0)),(19,(AV.fn 24 [AV.ptr 356 0,AV.ptr 0 0])),(20,(Aa e)),(102,u),(103,(Aa (IntKind.wrap .i64 (b+(1))))),(104,(Ah (decide (b<(2))))),(105,(Aa a)),(24,(Aa a)),(106,(Aa a)),(107,(AV.ptr 1 5)),(108,(Aa c)),(109,(Ah (decide (a≥c)))),(110,(Ah false)),(111,(AV.B4 [])),(112,(AV.B4 [])),(113,(AV.B4 [])),(114,(AV.B4 [])),(115,(Ah false)),(119,(Aa (IntKind.wrap .i64 (b+(1)))))],((1,some ⟨[AV.sc (.string g),Aa h,Aa i,Aa j,Aa k,Aa c,Aa d],26⟩)::(209,some ⟨[Aa l,Aa n,Aa o,Aa p,Aa q,Aa r],47⟩)::(356,some ⟨[s],36⟩)::(0,some ⟨[AV.sc (.string t)],9⟩)::m),300011⟩)) else (
Bo (Cs pg (.build 66 #[(0,.tmp 0),(1,.tmp 1)]) 66 [Aa (IntKind.wrap .i64 (f+(IntKind.wrap .i64 ((171)*e)))),Aa (IntKind.wrap .i64 (f-(IntKind.wrap .i64 ((171)*e))))] (Am ((1,some ⟨[AV.sc (.string g),Aa h,Aa i,Aa j,Aa k,Aa c,Aa d],26⟩)::(209,some ⟨[Aa l,Aa n,Aa o,Aa p,Aa q,Aa r],47⟩)::(356,some ⟨[s],36⟩)::(0,some ⟨[AV.sc (.string t)],9⟩)::m)) 300009) fun ad=>
C6 pg KK 138 0 (.loop V0) ⟨[(7,(AV.ptr 1 0)),(8,v),(9,(Aa w)),(12,(AV.ptr 209 0)),(15,(Aa f)),(16,(Aa x)),(17,(Ah y)),(18,(AV.ptr 356 0)),(19,(AV.fn 24 [AV.ptr 356 0,AV.ptr 0 0])),(20,(Aa e)),(102,u),(103,(Aa b)),(104,(Ah (decide (b<(2))))),(120,(Aa f)),(121,(Aa e)),(122,(Aa (IntKind.wrap .i64 ((171)*e)))),(123,(Aa (IntKind.wrap .i64 (f+(IntKind.wrap .i64 ((171)*e)))))),(124,(Aa f)),(125,(Aa e)),(126,(Aa (IntKind.wrap .i64 ((171)*e)))),(127,(Aa (IntKind.wrap .i64 (f-(IntKind.wrap .i64 ((171)*e)))))),(128,ad),(129,(Aa (0)))],((1,some ⟨[AV.sc (.string g),Aa h,Aa i,Aa j,Aa k,Aa c,Aa d],26⟩)::(209,some ⟨[Aa l,Aa n,Aa o,Aa p,Aa q,Aa r],47⟩)::(356,some ⟨[s],36⟩)::(0,some ⟨[AV.sc (.string t)],9⟩)::m),300011⟩ (Vj R N0))
theorem fI (a:AV) (b c d:Int) (e:Bool) (f:Int) (g:AV) (h:Int) (i:ByteArray) (j k l n o p q r s t u v:Int) (w:AV) (x:ByteArray) (m:Mem) (R:AV→Mem→Prop) (N0 N1:St→Prop):W pg KK 138 0 Vr (Oz a b c d e f g h i j k l n o p q r s t u v w x m) (pY R N0 N1)=Wb a b c d e f g h i j k l n o p q r s t u v w x m R N0 N1:=by kernel_rfl
theorem yV (R:AV→Mem→Prop) (N0:St→Prop) {σ:Type} (I:σ→Prop) (a:σ→AV) (b c d:σ→Int) (e:σ→Bool) (f:σ→Int) (g:σ→AV) (h:σ→Int) (i:σ→ByteArray) (j k l n o p q r t u v w:σ→Int) (z:σ→AV) (aa:σ→ByteArray) (m:σ→Mem) (μ:σ→Nat) (step:∀x,I x→Wb (a x) (b x) (c x) (d x) (e x) (f x) (g x) (h x) (i x) (j x) (k x) (l x) (n x) (o x) (p x) (q x) (r x) (t x) (u x) (v x) (w x) (z x) (aa x) (m x) R N0 (fun s'=>∃y,I y∧μ y<μ x∧Cl KK 138 0 s' (Oz (a y) (b y) (c y) (d y) (e y) (f y) (g y) (h y) (i y) (j y) (k y) (l y) (n y) (o y) (p y) (q y) (r y) (t y) (u y) (v y) (w y) (z y) (aa y) (m y)))) (x:σ) (hx:I x) {s:St} (hw:Cl KK 138 0 s (Oz (a x) (b x) (c x) (d x) (e x) (f x) (g x) (h x) (i x) (j x) (k x) (l x) (n x) (o x) (p x) (q x) (r x) (t x) (u x) (v x) (w x) (z x) (aa x) (m x))):C6 pg KK 138 0 (.loop Vr) s (V7 R N0):=
 C6.He hw (C6.loops Ee I (fun x=>Oz (a x) (b x) (c x) (d x) (e x) (f x) (g x) (h x) (i x) (j x) (k x) (l x) (n x) (o x) (p x) (q x) (r x) (t x) (u x) (v x) (w x) (z x) (aa x) (m x)) μ (fun x hx=>(fI (a x) (b x) (c x) (d x) (e x) (f x) (g x) (h x) (i x) (j x) (k x) (l x) (n x) (o x) (p x) (q x) (r x) (t x) (u x) (v x) (w x) (z x) (aa x) (m x) R N0 _).mpr (step x hx)) x hx)
noncomputable def Uy (u:AV) (v w x:Int) (y:Bool) (b:Int) (t:AV) (a:Int) (c:ByteArray) (d e f g h i j k l n o p:Int) (q:AV) (r:ByteArray) (m:Mem) (R:AV→Mem→Prop) (N0 N1:St→Prop):Prop:=
bif (decide (a<(2))) then (
Bo (Cs pg (.index 66 (.tmp 0) (.tmp 1)) 3 [t,Aa a] (Am ((1,some ⟨[AV.sc (.string c),Aa d,Aa e,Aa f,Aa g,Aa h,Aa i],26⟩)::(209,some ⟨[Aa j,Aa k,Aa l,Aa n,Aa o,Aa p],47⟩)::(356,some ⟨[q],36⟩)::(0,some ⟨[AV.sc (.string r)],9⟩)::m)) 400001) fun aa=>
Af aa fun s=>
Bd pg KK.gl ((1,some ⟨[AV.sc (.string c),Aa d,Aa e,Aa f,Aa g,Aa h,Aa i],26⟩)::(209,some ⟨[Aa j,Aa k,Aa l,Aa n,Aa o,Aa p],47⟩)::(356,some ⟨[q],36⟩)::(0,some ⟨[AV.sc (.string r)],9⟩)::m) 25 [Aa s] fun ab=>
Af ab fun z=>
Ez pg KK.gl ((1,some ⟨[AV.sc (.string c),Aa d,Aa e,Aa f,Aa g,Aa h,Aa i],26⟩)::(209,some ⟨[Aa j,Aa k,Aa l,Aa n,Aa o,Aa p],47⟩)::(356,some ⟨[q],36⟩)::(0,some ⟨[AV.sc (.string r)],9⟩)::m) 400069 24 [Aa (1),Aa z,AV.ptr 356 0,AV.ptr 0 0] fun ad ae=>
X5 ad<|
N1 ⟨[(7,(AV.ptr 1 0)),(8,u),(9,(Aa v)),(12,(AV.ptr 209 0)),(15,(Aa w)),(16,(Aa x)),(17,(Ah y)),(18,(AV.ptr 356 0)),(19,(AV.fn 24 [AV.ptr 356 0,AV.ptr 0 0])),(20,(Aa b)),(128,t),(129,(Aa (IntKind.wrap .i64 (a+(1))))),(130,(Ah (decide (a<(2))))),(131,(Aa s)),(26,(Aa s)),(132,(AV.fn 24 [AV.ptr 356 0,AV.ptr 0 0])),(133,(Aa s)),(134,(Aa z)),(135,(AV.B4 [])),(136,(Aa (IntKind.wrap .i64 (a+(1)))))],ae,400135⟩) else (
N0 ⟨[(7,(AV.ptr 1 0)),(8,u),(9,(Aa v)),(12,(AV.ptr 209 0)),(15,(Aa w)),(16,(Aa x)),(17,(Ah y)),(18,(AV.ptr 356 0)),(19,(AV.fn 24 [AV.ptr 356 0,AV.ptr 0 0])),(20,(Aa (IntKind.wrap .i64 (b+(1))))),(128,t),(129,(Aa a)),(130,(Ah (decide (a<(2))))),(62,(Aa b)),(63,(Aa (IntKind.wrap .i64 (b+(1)))))],((1,some ⟨[AV.sc (.string c),Aa d,Aa e,Aa f,Aa g,Aa h,Aa i],26⟩)::(209,some ⟨[Aa j,Aa k,Aa l,Aa n,Aa o,Aa p],47⟩)::(356,some ⟨[q],36⟩)::(0,some ⟨[AV.sc (.string r)],9⟩)::m),400004⟩)
theorem iL (a:AV) (b c d:Int) (e:Bool) (f:Int) (g:AV) (h:Int) (i:ByteArray) (j k l n o p q r s t u v:Int) (w:AV) (x:ByteArray) (m:Mem) (R:AV→Mem→Prop) (N0 N1:St→Prop):W pg KK 138 0 V0 (Ol a b c d e f g h i j k l n o p q r s t u v w x m) (rT R N0 N1)=Uy a b c d e f g h i j k l n o p q r s t u v w x m R N0 N1:=by kernel_rfl
theorem yS (R:AV→Mem→Prop) (N0:St→Prop) {σ:Type} (I:σ→Prop) (a:σ→AV) (b c d:σ→Int) (e:σ→Bool) (f:σ→Int) (g:σ→AV) (h:σ→Int) (i:σ→ByteArray) (j k l n o p q r t u v w:σ→Int) (z:σ→AV) (aa:σ→ByteArray) (m:σ→Mem) (μ:σ→Nat) (step:∀x,I x→Uy (a x) (b x) (c x) (d x) (e x) (f x) (g x) (h x) (i x) (j x) (k x) (l x) (n x) (o x) (p x) (q x) (r x) (t x) (u x) (v x) (w x) (z x) (aa x) (m x) R N0 (fun s'=>∃y,I y∧μ y<μ x∧Cl KK 138 0 s' (Ol (a y) (b y) (c y) (d y) (e y) (f y) (g y) (h y) (i y) (j y) (k y) (l y) (n y) (o y) (p y) (q y) (r y) (t y) (u y) (v y) (w y) (z y) (aa y) (m y)))) (x:σ) (hx:I x) {s:St} (hw:Cl KK 138 0 s (Ol (a x) (b x) (c x) (d x) (e x) (f x) (g x) (h x) (i x) (j x) (k x) (l x) (n x) (o x) (p x) (q x) (r x) (t x) (u x) (v x) (w x) (z x) (aa x) (m x))):C6 pg KK 138 0 (.loop V0) s (Vj R N0):=
 C6.He hw (C6.loops Ee I (fun x=>Ol (a x) (b x) (c x) (d x) (e x) (f x) (g x) (h x) (i x) (j x) (k x) (l x) (n x) (o x) (p x) (q x) (r x) (t x) (u x) (v x) (w x) (z x) (aa x) (m x)) μ (fun x hx=>(iL (a x) (b x) (c x) (d x) (e x) (f x) (g x) (h x) (i x) (j x) (k x) (l x) (n x) (o x) (p x) (q x) (r x) (t x) (u x) (v x) (w x) (z x) (aa x) (m x) R N0 _).mpr (step x hx)) x hx)
noncomputable def F7 (a:ByteArray) (p:AV) (w:Int) (b:ByteArray) (c d e f g h:Int) (R:AV→Mem→Prop):Prop:=
Bd pg KK.gl ((1,some ⟨[AV.sc (.string b),Aa c,Aa d,Aa e,Aa f,Aa g,Aa h],26⟩)::(0,some ⟨[AV.sc (.string a)],9⟩)::[]) 17 [p] fun y=>
Af y fun q=>
bif (q !=(0)) then (
A2 R ((1,some ⟨[AV.sc (.string b),Aa c,Aa d,Aa e,Aa f,Aa g,Aa h],26⟩)::(0,some ⟨[AV.sc (.string a)],9⟩)::[]) [some AV.B1,some (Aa q)]) else (
Bd pg KK.gl ((1,some ⟨[AV.sc (.string b),Aa c,Aa d,Aa e,Aa f,Aa g,Aa h],26⟩)::(0,some ⟨[AV.sc (.string a)],9⟩)::[]) 20 [AV.agg [AV.sc (.string b),Aa c,Aa d,Aa e,Aa f,Aa g,Aa h]] fun z=>
Af z fun r=>
bif (r !=(0)) then (
A2 R ((1,some ⟨[AV.sc (.string b),Aa c,Aa d,Aa e,Aa f,Aa g,Aa h],26⟩)::(0,some ⟨[AV.sc (.string a)],9⟩)::[]) [some AV.B1,some (Aa r)]) else (
Bd pg KK.gl ((1,some ⟨[AV.sc (.string b),Aa c,Aa d,Aa e,Aa f,Aa g,Aa h],26⟩)::(0,some ⟨[AV.sc (.string a)],9⟩)::[]) 21 [p,Aa w] fun v4=>
Fs v4 fun c5 c6=>
Ji c5 fun c7 c8 c9 K5 aa ab=>
Af c7 fun i=>
Af c8 fun j=>
Af c9 fun k=>
Af K5 fun l=>
Af aa fun m=>
Af ab fun n=>
Af c6 fun o=>
bif (o !=(0)) then (
A2 R ((209,some ⟨[Aa i,Aa j,Aa k,Aa l,Aa m,Aa n],47⟩)::(209,some ⟨[Aa (0),Aa (0),Aa (0),Aa (0),Aa (0),Aa (0)],47⟩)::(1,some ⟨[AV.sc (.string b),Aa c,Aa d,Aa e,Aa f,Aa g,Aa h],26⟩)::(0,some ⟨[AV.sc (.string a)],9⟩)::[]) [some AV.B1,some (Aa o)]) else (
Bo (N8 [AV.sc (.string ⟨#[]⟩),Aa (0),Aa (0),AV.sc (.string ⟨#[]⟩)] [(0,1),(1,1),(2,1),(3,1)] [(0,(AV.sc (.string a)))]) fun x=>
Bd pg KK.gl ((209,some ⟨[Aa i,Aa j,Aa k,Aa l,Aa m,Aa n],47⟩)::(209,some ⟨[Aa (0),Aa (0),Aa (0),Aa (0),Aa (0),Aa (0)],47⟩)::(1,some ⟨[AV.sc (.string b),Aa c,Aa d,Aa e,Aa f,Aa g,Aa h],26⟩)::(0,some ⟨[AV.sc (.string a)],9⟩)::[]) 22 [x] fun ad=>
Af ad fun s=>
bif (s !=(0)) then (
A2 R ((209,some ⟨[Aa i,Aa j,Aa k,Aa l,Aa m,Aa n],47⟩)::(209,some ⟨[Aa (0),Aa (0),Aa (0),Aa (0),Aa (0),Aa (0)],47⟩)::(1,some ⟨[AV.sc (.string b),Aa c,Aa d,Aa e,Aa f,Aa g,Aa h],26⟩)::(0,some ⟨[AV.sc (.string a)],9⟩)::[]) [some AV.B1,some (Aa s)]) else (
Bd pg KK.gl ((209,some ⟨[Aa i,Aa j,Aa k,Aa l,Aa m,Aa n],47⟩)::(209,some ⟨[Aa (0),Aa (0),Aa (0),Aa (0),Aa (0),Aa (0)],47⟩)::(1,some ⟨[AV.sc (.string b),Aa c,Aa d,Aa e,Aa f,Aa g,Aa h],26⟩)::(0,some ⟨[AV.sc (.string a)],9⟩)::[]) 23 [p,AV.agg [Aa i,Aa j,Aa k,Aa l,Aa m,Aa n]] fun ae=>
tV ae fun af Pn Si=>
Af af fun t=>
Af Pn fun u=>
Hr Si fun v=>
C6 pg KK 138 0 (.loop S2) ⟨[(0,(AV.sc (.string a))),(1,p),(2,(Aa w)),(3,(AV.agg [AV.sc (.string b),Aa c,Aa d,Aa e,Aa f,Aa g,Aa h])),(4,(AV.ptr 0 0)),(7,(AV.ptr 1 0)),(8,AV.B1),(9,(Aa (0))),(27,p),(28,(Aa q)),(10,(Aa q)),(29,(Aa q)),(30,(Ah (q !=(0)))),(32,(AV.agg [AV.sc (.string b),Aa c,Aa d,Aa e,Aa f,Aa g,Aa h])),(33,(Aa r)),(11,(Aa r)),(34,(Aa r)),(35,(Ah (r !=(0)))),(38,p),(39,(Aa w)),(40,(AV.B4 [AV.agg [Aa i,Aa j,Aa k,Aa l,Aa m,Aa n],Aa o])),(37,(AV.B4 [AV.agg [Aa i,Aa j,Aa k,Aa l,Aa m,Aa n],Aa o])),(41,(AV.agg [Aa i,Aa j,Aa k,Aa l,Aa m,Aa n])),(42,(Aa o)),(12,(AV.ptr 209 0)),(13,(Aa o)),(43,(Aa o)),(44,(Ah (o !=(0)))),(46,(AV.sc (.string a))),(47,x),(48,(Aa s)),(14,(Aa s)),(49,(Aa s)),(50,(Ah (s !=(0)))),(53,p),(54,(AV.agg [Aa i,Aa j,Aa k,Aa l,Aa m,Aa n])),(55,(AV.B4 [Aa t,Aa u,Ah v])),(52,(AV.B4 [Aa t,Aa u,Ah v])),(56,(Aa t)),(57,(Aa u)),(58,(Ah v)),(15,(Aa t)),(16,(Aa u)),(17,(Ah v)),(18,(AV.ptr 356 0)),(59,(AV.fn 24 [AV.ptr 356 0,AV.ptr 0 0])),(19,(AV.fn 24 [AV.ptr 356 0,AV.ptr 0 0])),(20,(Aa (1)))],((356,some ⟨[AV.B1],36⟩)::(209,some ⟨[Aa i,Aa j,Aa k,Aa l,Aa m,Aa n],47⟩)::(209,some ⟨[Aa (0),Aa (0),Aa (0),Aa (0),Aa (0),Aa (0)],47⟩)::(1,some ⟨[AV.sc (.string b),Aa c,Aa d,Aa e,Aa f,Aa g,Aa h],26⟩)::(0,some ⟨[AV.sc (.string a)],9⟩)::[]),360⟩ (sB R)))))
theorem zB (a:ByteArray) (b:AV) (c:Int) (d:ByteArray) (e f g i j k:Int) (R:AV→Mem→Prop) (h:F7 a b c d e f g i j k R):Own pg KK.gl 7 [AV.sc (.string a),b,Aa c,AV.agg [AV.sc (.string d),Aa e,Aa f,Aa g,Aa i,Aa j,Aa k]] R:=Bk Ee Tryz.func7 (code:=c7) Bi Bi Bi (X:=F7 a b c d e f g i j k R) Bi h
noncomputable def vP:Code:=((Tryz.f19).body).getD .skip
noncomputable def q19 (R:AV→Mem→Prop):Bh→St→Prop:=C8 pg Tryz.f19 R
noncomputable def eB:Code:=Ey vP 0
noncomputable def cE (R:AV→Mem→Prop):Bh→St→Prop:=Ew pg KK 33 0 vP 0 (q19 R)
noncomputable def Aag (R:AV→Mem→Prop) (N0:St→Prop):Bh→St→Prop:=Ex N0 (cE R)
def Ty (a:Int) (b:AV) (c:Bool) (d:AV) (e f g h:Int) (m:Mem):St:=⟨[(1,(Aa a)),(2,b),(7,(AV.ptr 0 0)),(8,(Ah c)),(13,d),(14,(Aa e)),(15,(Aa f))],((0,some ⟨[Aa g,Aa h],24⟩)::m),100000⟩
noncomputable def bH (d:Int) (h:AV) (l:Bool) (j:AV) (g a b c:Int) (m:Mem) (R:AV→Mem→Prop) (N0:St→Prop):Prop:=
bif (decide (a<g)) then (
Bo (Eb 1 j (Aa a)) fun k=>
Bo (Fm (Am ((0,some ⟨[Aa b,Aa c],24⟩)::m)) k) fun f=>
bif (a !=d) then (
Bd pg KK.gl ((0,some ⟨[Aa b,Aa c],24⟩)::m) 34 [h,f,AV.agg [Aa b,Aa c]] fun n=>
Fs n fun c5 c6=>
Af c5 fun i=>
Af c6 fun e=>
bif (e==(0)) then (
A2 R ((0,some ⟨[Aa b,Aa c],24⟩)::m) [some (Ah false)]) else (
N0 ⟨[(1,(Aa d)),(2,h),(7,(AV.ptr 0 0)),(8,(Ah l)),(13,j),(14,(Aa g)),(15,(Aa (IntKind.wrap .i64 (a+(1))))),(16,(Ah (decide (a<g)))),(17,(Aa a)),(18,k),(19,f),(9,(Aa a)),(10,f),(20,(Aa a)),(21,(Aa d)),(22,(Ah (a !=d))),(24,h),(25,f),(26,(AV.agg [Aa b,Aa c])),(27,(AV.B4 [Aa i,Aa e])),(23,(AV.B4 [Aa i,Aa e])),(28,(Aa i)),(29,(Aa e)),(11,(Aa i)),(12,(Aa e)),(30,(Aa e)),(31,(Ah (e==(0)))),(32,(Aa (IntKind.wrap .i64 (a+(1)))))],((0,some ⟨[Aa b,Aa c],24⟩)::m),100085⟩)) else (
N0 ⟨[(1,(Aa d)),(2,h),(7,(AV.ptr 0 0)),(8,(Ah l)),(13,j),(14,(Aa g)),(15,(Aa (IntKind.wrap .i64 (a+(1))))),(16,(Ah (decide (a<g)))),(17,(Aa a)),(18,k),(19,f),(9,(Aa a)),(10,f),(20,(Aa a)),(21,(Aa d)),(22,(Ah (a !=d))),(32,(Aa (IntKind.wrap .i64 (a+(1)))))],((0,some ⟨[Aa b,Aa c],24⟩)::m),100011⟩)) else (
A2 R ((0,some ⟨[Aa b,Aa c],24⟩)::m) [some (Ah true)])
theorem k9 (a:Int) (b:AV) (c:Bool) (d:AV) (e f g h:Int) (m:Mem) (R:AV→Mem→Prop) (N0:St→Prop):W pg KK 33 0 eB (Ty a b c d e f g h m) (Aag R N0)=bH a b c d e f g h m R N0:=by kernel_rfl
theorem Ac2 (R:AV→Mem→Prop) {σ:Type} (I:σ→Prop) (a:σ→Int) (b:σ→AV) (c:σ→Bool) (d:σ→AV) (e f g h:σ→Int) (m:σ→Mem) (μ:σ→Nat) (step:∀x,I x→bH (a x) (b x) (c x) (d x) (e x) (f x) (g x) (h x) (m x) R (fun s'=>∃y,I y∧μ y<μ x∧Cl KK 33 0 s' (Ty (a y) (b y) (c y) (d y) (e y) (f y) (g y) (h y) (m y)))) (x:σ) (hx:I x) {s:St} (hw:Cl KK 33 0 s (Ty (a x) (b x) (c x) (d x) (e x) (f x) (g x) (h x) (m x))):C6 pg KK 33 0 (.loop eB) s (cE R):=
 C6.He hw (C6.loops Ee I (fun x=>Ty (a x) (b x) (c x) (d x) (e x) (f x) (g x) (h x) (m x)) μ (fun x hx=>(k9 (a x) (b x) (c x) (d x) (e x) (f x) (g x) (h x) (m x) R _).mpr (step x hx)) x hx)
noncomputable def F19 (a:AV) (d:Int) (e:AV) (b c:Int) (R:AV→Mem→Prop):Prop:=
Bo (Ed a) fun f=>
Af f fun g=>
C6 pg KK 33 0 (.loop eB) ⟨[(0,a),(1,(Aa d)),(2,e),(3,(AV.agg [Aa b,Aa c])),(7,(AV.ptr 0 0)),(8,(Ah false)),(13,a),(14,(Aa g)),(15,(Aa (0)))],((0,some ⟨[Aa b,Aa c],24⟩)::[]),5⟩ (cE R)
theorem sQ (a:AV) (b:Int) (c:AV) (d e:Int) (R:AV→Mem→Prop) (h:F19 a b c d e R):Own pg KK.gl 19 [a,Aa b,c,AV.agg [Aa d,Aa e]] R:=Bk Ee Tryz.func19 (code:=vP) Bi Bi Bi (X:=F19 a b c d e R) Bi h
noncomputable def Si:Code:=((Tryz.f26).body).getD .skip
noncomputable def q26 (R:AV→Mem→Prop):Bh→St→Prop:=C8 pg Tryz.f26 R
noncomputable def F26 (a:AV) (R:AV→Mem→Prop):Prop:=
Bo (Fm (Am []) a) fun b=>
Bd pg KK.gl [] 17 [b] fun c=>
Af c fun d=>
A2 R [] [some (Aa d)]
theorem qO (a:AV) (R:AV→Mem→Prop) (h:F26 a R):Own pg KK.gl 26 [a] R:=Bk Ee Tryz.func26 (code:=Si) Bi Bi Bi (X:=F26 a R) Bi h
noncomputable def S6:Code:=((Tryz.f27).body).getD .skip
noncomputable def q27 (R:AV→Mem→Prop):Bh→St→Prop:=C8 pg Tryz.f27 R
noncomputable def F27 (a:AV) (R:AV→Mem→Prop):Prop:=
Bo (Iv (Am []) 4 a) fun b=>
Sy b fun c d c3 e=>
Em c fun s5=>
Af d fun f=>
Af c3 fun g=>
Em e fun s8=>
Bd pg KK.gl [] 22 [AV.agg [AV.sc (.string s5),Aa f,Aa g,AV.sc (.string s8)]] fun h=>
Af h fun i=>
A2 R [] [some (Aa i)]
theorem wW (a:AV) (R:AV→Mem→Prop) (h:F27 a R):Own pg KK.gl 27 [a] R:=Bk Ee Tryz.func27 (code:=S6) Bi Bi Bi (X:=F27 a R) Bi h
noncomputable def Qh:Code:=((Tryz.f28).body).getD .skip
noncomputable def q28 (R:AV→Mem→Prop):Bh→St→Prop:=C8 pg Tryz.f28 R
noncomputable def F28 (a:AV) (R:AV→Mem→Prop):Prop:=
Bo (Iv (Am []) 7 a) fun b=>
nH b fun c d c3 e c5 c6 c7=>
Em c fun s8=>
Af d fun f=>
Af c3 fun g=>
Af e fun h=>
Af c5 fun i=>
Af c6 fun j=>
Af c7 fun k=>
Bd pg KK.gl [] 20 [AV.agg [AV.sc (.string s8),Aa f,Aa g,Aa h,Aa i,Aa j,Aa k]] fun l=>
Af l fun m=>
A2 R [] [some (Aa m)]
theorem uY (a:AV) (R:AV→Mem→Prop) (h:F28 a R):Own pg KK.gl 28 [a] R:=Bk Ee Tryz.func28 (code:=Qh) Bi Bi Bi (X:=F28 a R) Bi h
noncomputable def c29:Code:=((Tryz.f29).body).getD .skip
noncomputable def q29 (R:AV→Mem→Prop):Bh→St→Prop:=C8 pg Tryz.f29 R
noncomputable def F29 (a:AV) (R:AV→Mem→Prop):Prop:=
Bo (Iv (Am []) 2 a) fun b=>
I3 b fun c d=>
Af c fun e=>
Af d fun f=>
Bd pg KK.gl [] 30 [AV.agg [Aa e,Aa f]] fun g=>
Af g fun h=>
A2 R [] [some (Aa h)]
theorem sZ (a:AV) (R:AV→Mem→Prop) (h:F29 a R):Own pg KK.gl 29 [a] R:=Bk Ee Tryz.func29 (code:=c29) Bi Bi Bi (X:=F29 a R) Bi h
noncomputable def c62:Code:=((Tryz.f62).body).getD .skip
noncomputable def q62 (R:AV→Mem→Prop):Bh→St→Prop:=C8 pg Tryz.f62 R
noncomputable def F62 (d:ByteArray) (e a b c f g h i:Int) (R:AV→Mem→Prop):Prop:=
Bd pg KK.gl ((0,some ⟨[AV.sc (.string d),Aa e,Aa a,Aa b,Aa c,Aa f,Aa g],26⟩)::[]) 20 [AV.agg [AV.sc (.string d),Aa e,Aa a,Aa b,Aa c,Aa f,Aa g]] fun k=>
Af k fun j=>
bif (j !=(0)) then (
A2 R ((0,some ⟨[AV.sc (.string d),Aa e,Aa a,Aa b,Aa c,Aa f,Aa g],26⟩)::[]) [some (Aa (0)),some (Aa j)]) else (
bif (decide (h<(0))) then (
A2 R ((0,some ⟨[AV.sc (.string d),Aa e,Aa a,Aa b,Aa c,Aa f,Aa g],26⟩)::[]) [some (Aa (0)),some (Aa (4))]) else (
bif (decide (h>(60000))) then (
A2 R ((0,some ⟨[AV.sc (.string d),Aa e,Aa a,Aa b,Aa c,Aa f,Aa g],26⟩)::[]) [some (Aa (0)),some (Aa (4))]) else (
bif (decide (i<(0))) then (
A2 R ((0,some ⟨[AV.sc (.string d),Aa e,Aa a,Aa b,Aa c,Aa f,Aa g],26⟩)::[]) [some (Aa (0)),some (Aa (4))]) else (
bif (decide (i>(60000))) then (
A2 R ((0,some ⟨[AV.sc (.string d),Aa e,Aa a,Aa b,Aa c,Aa f,Aa g],26⟩)::[]) [some (Aa (0)),some (Aa (4))]) else (
bif (decide (h>a)) then (
A2 R ((0,some ⟨[AV.sc (.string d),Aa e,Aa a,Aa b,Aa c,Aa f,Aa g],26⟩)::[]) [some (Aa (0)),some (Aa (20))]) else (
bif (decide (i>a)) then (
A2 R ((0,some ⟨[AV.sc (.string d),Aa e,Aa a,Aa b,Aa c,Aa f,Aa g],26⟩)::[]) [some (Aa (0)),some (Aa (20))]) else (
bif (decide (i≥h)) then (
Bd pg KK.gl ((0,some ⟨[AV.sc (.string d),Aa e,Aa a,Aa b,Aa c,Aa f,Aa g],26⟩)::[]) 54 [Aa (IntKind.wrap .i64 (i-h)),Aa b] fun l=>
Fs l fun c3 m=>
Af c3 fun n=>
Af m fun o=>
A2 R ((0,some ⟨[AV.sc (.string d),Aa e,Aa a,Aa b,Aa c,Aa f,Aa g],26⟩)::[]) [some (Aa n),some (Aa o)]) else (
Bd pg KK.gl ((0,some ⟨[AV.sc (.string d),Aa e,Aa a,Aa b,Aa c,Aa f,Aa g],26⟩)::[]) 54 [Aa (IntKind.wrap .i64 (h-i)),Aa c] fun p=>
Fs p fun c8 c9=>
Af c8 fun q=>
Af c9 fun r=>
A2 R ((0,some ⟨[AV.sc (.string d),Aa e,Aa a,Aa b,Aa c,Aa f,Aa g],26⟩)::[]) [some (Aa q),some (Aa r)]))))))))
theorem uC (a:ByteArray) (b c d e f g i j:Int) (R:AV→Mem→Prop) (h:F62 a b c d e f g i j R):Own pg KK.gl 62 [AV.agg [AV.sc (.string a),Aa b,Aa c,Aa d,Aa e,Aa f,Aa g],Aa i,Aa j] R:=Bk Ee Tryz.func62 (code:=c62) Bi Bi Bi (X:=F62 a b c d e f g i j R) Bi h
noncomputable def c64:Code:=((Tryz.f64).body).getD .skip
noncomputable def q64 (R:AV→Mem→Prop):Bh→St→Prop:=C8 pg Tryz.f64 R
noncomputable def F64 (a b c d e f:Int) (g:AV) (R:AV→Mem→Prop):Prop:=
Bo (Fm (Am ((0,some ⟨[Aa a,Aa b,Aa c,Aa d,Aa e,Aa f],47⟩)::[])) g) fun h=>
Af h fun i=>
A2 R ((0,some ⟨[Aa a,Aa b,Aa c,Aa d,Aa e,Aa f],47⟩)::[]) [some (Ah (decide (a≥i)))]
theorem vH (a b c d e f:Int) (g:AV) (R:AV→Mem→Prop) (h:F64 a b c d e f g R):Own pg KK.gl 64 [AV.agg [Aa a,Aa b,Aa c,Aa d,Aa e,Aa f],g] R:=Bk Ee Tryz.func64 (code:=c64) Bi Bi Bi (X:=F64 a b c d e f g R) Bi h
noncomputable def tM:Code:=((Tryz.f63).body).getD .skip
noncomputable def q63 (R:AV→Mem→Prop):Bh→St→Prop:=C8 pg Tryz.f63 R
noncomputable def dJ:Code:=Ey tM 0
noncomputable def eC (R:AV→Mem→Prop):Bh→St→Prop:=Ew pg KK 19 0 tM 0 (q63 R)
noncomputable def Acq (R:AV→Mem→Prop) (N0:St→Prop):Bh→St→Prop:=Ex N0 (eC R)
def Tq (a b:AV) (c d e:Int) (m:Mem):St:=⟨[(0,a),(1,b),(4,(Aa c)),(7,(Aa d)),(8,(Aa e))],m,100000⟩
noncomputable def eK (b c:AV) (o d a:Int) (m:Mem) (R:AV→Mem→Prop) (N0:St→Prop):Prop:=
bif (decide (a<d)) then (
Bo (Eb 6 b (Aa a)) fun f=>
Bo (Iv (Am m) 6 f) fun r=>
Ji r fun s c5 c6 c7 c8 c9=>
Af s fun g=>
Af c5 fun h=>
Af c6 fun i=>
Af c7 fun j=>
Af c8 fun k=>
Af c9 fun l=>
Jt (some c) (some [AV.agg [Aa g,Aa h,Aa i,Aa j,Aa k,Aa l]]) fun f16 p=>bif KK.pm f16 then Bd pg KK.gl m f16 p (fun n=>
Hr n fun e=>
bif e then (
A2 R m [some (Aa a)]) else (
N0 ⟨[(0,b),(1,c),(4,(Aa o)),(7,(Aa d)),(8,(Aa (IntKind.wrap .i64 (a+(1))))),(9,(Ah (decide (a<d)))),(10,(Aa a)),(5,(Aa a)),(11,c),(12,b),(13,(Aa a)),(14,f),(15,(AV.agg [Aa g,Aa h,Aa i,Aa j,Aa k,Aa l])),(16,(Ah e)),(18,(Aa (IntKind.wrap .i64 (a+(1)))))],m,100074⟩)) else Ez pg KK.gl m 100008 f16 p fun n q=>
Hr n fun e=>
bif e then (
A2 R q [some (Aa a)]) else (
N0 ⟨[(0,b),(1,c),(4,(Aa o)),(7,(Aa d)),(8,(Aa (IntKind.wrap .i64 (a+(1))))),(9,(Ah (decide (a<d)))),(10,(Aa a)),(5,(Aa a)),(11,c),(12,b),(13,(Aa a)),(14,f),(15,(AV.agg [Aa g,Aa h,Aa i,Aa j,Aa k,Aa l])),(16,(Ah e)),(18,(Aa (IntKind.wrap .i64 (a+(1)))))],q,100074⟩)) else (
A2 R m [some (Aa (-1))])
theorem jE (a b:AV) (c d e:Int) (m:Mem) (R:AV→Mem→Prop) (N0:St→Prop):W pg KK 19 0 dJ (Tq a b c d e m) (Acq R N0)=eK a b c d e m R N0:=by kernel_rfl
theorem Adw (R:AV→Mem→Prop) {σ:Type} (I:σ→Prop) (a b:σ→AV) (c d e:σ→Int) (m:σ→Mem) (μ:σ→Nat) (step:∀x,I x→eK (a x) (b x) (c x) (d x) (e x) (m x) R (fun s'=>∃y,I y∧μ y<μ x∧Cl KK 19 0 s' (Tq (a y) (b y) (c y) (d y) (e y) (m y)))) (x:σ) (hx:I x) {s:St} (hw:Cl KK 19 0 s (Tq (a x) (b x) (c x) (d x) (e x) (m x))):C6 pg KK 19 0 (.loop dJ) s (eC R):=
 C6.He hw (C6.loops Ee I (fun x=>Tq (a x) (b x) (c x) (d x) (e x) (m x)) μ (fun x hx=>(jE (a x) (b x) (c x) (d x) (e x) (m x) R _).mpr (step x hx)) x hx)
noncomputable def F63 (a b:AV) (R:AV→Mem→Prop):Prop:=
Bo (Ed a) fun c=>
Af c fun d=>
C6 pg KK 19 0 (.loop dJ) ⟨[(0,a),(1,b),(4,(Aa (0))),(6,a),(7,(Aa d)),(8,(Aa (0)))],[],4⟩ (eC R)
theorem pR (a b:AV) (R:AV→Mem→Prop) (h:F63 a b R):Own pg KK.gl 63 [a,b] R:=Bk Ee Tryz.func63 (code:=tM) Bi Bi Bi (X:=F63 a b R) Bi h
noncomputable def Yq:Code:=((Tryz.f44).body).getD .skip
noncomputable def q44 (R:AV→Mem→Prop):Bh→St→Prop:=C8 pg Tryz.f44 R
noncomputable def Pz:Code:=Ey Yq 0
noncomputable def P5 (R:AV→Mem→Prop):Bh→St→Prop:=Ew pg KK 141 0 Yq 0 (q44 R)
noncomputable def Aad (R:AV→Mem→Prop) (N0:St→Prop):Bh→St→Prop:=Ex N0 (P5 R)
def Tf (a:AV) (b c:Int) (d:AV) (e f:Int) (m:Mem):St:=⟨[(1,(AV.ptr 0 0)),(2,a),(3,(Aa b)),(4,(Aa c)),(6,(AV.ptr 89 0)),(7,d),(84,(Aa e)),(85,(Aa f))],m,100000⟩
noncomputable def dH (s:AV) (t h:Int) (d:AV) (e a:Int) (m:Mem) (R:AV→Mem→Prop) (N0:St→Prop):Prop:=
bif (decide (a<e)) then (
Bo (Eb 6 d (Aa a)) fun b=>
Bo (Cs pg (.nilCheck (.tmp 0)) 0 [b] (Am m) 100008) fun o=>
Bo (E1 0 o) fun p=>
Bo (E1 0 p) fun q=>
Bo (Fm (Am m) q) fun af=>
Af af fun f=>
Bo (Fm (Am m) (AV.ptr 89 0)) fun ag=>
Af ag fun g=>
bif (decide (f≥g)) then (
Bo (Fm (Am m) (AV.ptr 0 2)) fun ah=>
Af ah fun u=>
Bo (Cs pg (.nilCheck (.tmp 0)) 0 [b] (Am m) 100018) fun v=>
Bo (E1 0 v) fun w=>
Bo (E1 3 w) fun x=>
Cw pg (Am m) 3 x (Aa u) fun aq d60=>
N0 ⟨[(1,(AV.ptr 0 0)),(2,s),(3,(Aa t)),(4,(Aa h)),(6,(AV.ptr 89 0)),(7,d),(84,(Aa e)),(85,(Aa (IntKind.wrap .i64 (a+(1))))),(86,(Ah (decide (a<e)))),(87,(Aa a)),(12,(Aa a)),(88,d),(89,(Aa a)),(90,b),(13,b),(91,b),(92,o),(93,p),(94,q),(95,(Aa f)),(96,(Aa g)),(97,(Ah (decide (f≥g)))),(98,b),(99,(AV.ptr 0 0)),(100,(AV.ptr 0 2)),(101,(Aa u)),(102,v),(103,w),(104,x),(139,(Aa (IntKind.wrap .i64 (a+(1)))))],Ag m d60,100024⟩) else (
Bo (Fm (Am m) (AV.ptr 0 2)) fun ai=>
Af ai fun i=>
Bo (Fm (Am m) (AV.ptr 0 9)) fun aj=>
Af aj fun j=>
Bo (Cs pg (.nilCheck (.tmp 0)) 0 [b] (Am m) 100023) fun y=>
Bo (E1 0 y) fun z=>
Bo (E1 0 z) fun aa=>
Bo (Fm (Am m) aa) fun ak=>
Af ak fun k=>
Bo (Fm (Am m) (AV.ptr 0 6)) fun al=>
Af al fun l=>
Bd pg KK.gl m 53 [Aa (IntKind.wrap .i64 ((IntKind.wrap .i64 (i-j))*(IntKind.wrap .i64 (k-l)))),Aa h] fun am=>
Fs am fun an ao=>
Af an fun c=>
Af ao fun n=>
Bo (Fm (Am m) (AV.ptr 0 9)) fun ap=>
Af ap fun r=>
Bo (Cs pg (.nilCheck (.tmp 0)) 0 [b] (Am m) 100047) fun ab=>
Bo (E1 0 ab) fun ad=>
Bo (E1 3 ad) fun ae=>
Cw pg (Am m) 3 ae (Aa (IntKind.wrap .i64 (r+c))) fun ar d82=>
N0 ⟨[(1,(AV.ptr 0 0)),(2,s),(3,(Aa t)),(4,(Aa h)),(6,(AV.ptr 89 0)),(7,d),(84,(Aa e)),(85,(Aa (IntKind.wrap .i64 (a+(1))))),(86,(Ah (decide (a<e)))),(87,(Aa a)),(12,(Aa a)),(88,d),(89,(Aa a)),(90,b),(13,b),(91,b),(92,o),(93,p),(94,q),(95,(Aa f)),(96,(Aa g)),(97,(Ah (decide (f≥g)))),(106,(AV.ptr 0 0)),(107,(AV.ptr 0 2)),(108,(Aa i)),(109,(AV.ptr 0 6)),(110,(AV.ptr 0 6)),(111,(AV.ptr 0 9)),(112,(Aa j)),(113,(Aa (IntKind.wrap .i64 (i-j)))),(114,b),(115,y),(116,z),(117,aa),(118,(Aa k)),(119,(AV.ptr 0 6)),(120,(AV.ptr 0 6)),(121,(AV.ptr 0 6)),(122,(Aa l)),(123,(Aa (IntKind.wrap .i64 (k-l)))),(124,(Aa (IntKind.wrap .i64 ((IntKind.wrap .i64 (i-j))*(IntKind.wrap .i64 (k-l)))))),(125,(Aa h)),(126,(AV.B4 [Aa c,Aa n])),(105,(AV.B4 [Aa c,Aa n])),(127,(Aa c)),(128,(Aa n)),(14,(Aa c)),(15,(Aa n)),(129,b),(130,(AV.ptr 0 6)),(131,(AV.ptr 0 6)),(132,(AV.ptr 0 9)),(133,(Aa r)),(134,(Aa c)),(135,(Aa (IntKind.wrap .i64 (r+c)))),(136,ab),(137,ad),(138,ae),(139,(Aa (IntKind.wrap .i64 (a+(1)))))],Ag m d82,100053⟩)) else (
A2 R m [some d,some (Aa (0))])
theorem lQ (a:AV) (b c:Int) (d:AV) (e f:Int) (m:Mem) (R:AV→Mem→Prop) (N0:St→Prop):W pg KK 141 0 Pz (Tf a b c d e f m) (Aad R N0)=dH a b c d e f m R N0:=by kernel_rfl
theorem Ac6 (R:AV→Mem→Prop) {σ:Type} (I:σ→Prop) (a:σ→AV) (b c:σ→Int) (d:σ→AV) (e f:σ→Int) (m:σ→Mem) (μ:σ→Nat) (step:∀x,I x→dH (a x) (b x) (c x) (d x) (e x) (f x) (m x) R (fun s'=>∃y,I y∧μ y<μ x∧Cl KK 141 0 s' (Tf (a y) (b y) (c y) (d y) (e y) (f y) (m y)))) (x:σ) (hx:I x) {s:St} (hw:Cl KK 141 0 s (Tf (a x) (b x) (c x) (d x) (e x) (f x) (m x))):C6 pg KK 141 0 (.loop Pz) s (P5 R):=
 C6.He hw (C6.loops Ee I (fun x=>Tf (a x) (b x) (c x) (d x) (e x) (f x) (m x)) μ (fun x hx=>(lQ (a x) (b x) (c x) (d x) (e x) (f x) (m x) R _).mpr (step x hx)) x hx)
noncomputable def F44 (v:ByteArray) (w g:Int) (x:ByteArray) (s f:AV) (e y z h aa ab:Int) (i:ByteArray) (j k l m n o ad ae:Int) (t:AV) (R:AV→Mem→Prop):Prop:=
Jj (Cq s)<|Jj (Cq f)<|Jj (Cq t)<|Bd pg KK.gl ((0,some ⟨[AV.sc (.string v),Aa w,Aa g,AV.sc (.string x),s,f,Aa e,Aa y,Aa z,Aa h,Aa aa,Aa ab,AV.sc (.string i),Aa j,Aa k,Aa l,Aa m,Aa n,Aa o,Aa ad,Aa ae,t],72⟩)::[]) 62 [AV.agg [AV.sc (.string i),Aa j,Aa k,Aa l,Aa m,Aa n,Aa o],Aa h,Aa g] fun v0=>
Fs v0 fun c1 c2=>
Af c1 fun a=>
Af c2 fun c=>
bif (c !=(0)) then (
A2 R ((0,some ⟨[AV.sc (.string v),Aa w,Aa g,AV.sc (.string x),s,f,Aa e,Aa y,Aa z,Aa h,Aa aa,Aa ab,AV.sc (.string i),Aa j,Aa k,Aa l,Aa m,Aa n,Aa o,Aa ad,Aa ae,t],72⟩)::[]) [some AV.B1,some (Aa c)]) else (
Ez pg KK.gl ((89,some ⟨[Aa (IntKind.wrap .i64 (e+a))],3⟩)::(89,some ⟨[Aa (0)],3⟩)::(0,some ⟨[AV.sc (.string v),Aa w,Aa g,AV.sc (.string x),s,f,Aa e,Aa y,Aa z,Aa h,Aa aa,Aa ab,AV.sc (.string i),Aa j,Aa k,Aa l,Aa m,Aa n,Aa o,Aa ad,Aa ae,t],72⟩)::[]) 93 32 [f] fun b p=>
Bo (Ed b) fun v6=>
Af v6 fun d=>
bif (decide (a>(0))) then (
bif (decide (d>(0))) then (
Bo (Fm (Am p) (AV.ptr 89 0)) fun v8=>
Af v8 fun q=>
Bo (Eb 6 b (Aa (IntKind.wrap .i64 (d-(1))))) fun an=>
Bo (E1 0 an) fun ao=>
Bo (E1 0 ao) fun ap=>
Bo (Fm (Am p) ap) fun ba=>
Af ba fun r=>
bif (decide (q<r)) then (
Bd pg KK.gl p 63 [b,AV.fn 64 [AV.ptr 89 0]] fun bb=>
Af bb fun u=>
Bo (Eb 6 b (Aa u)) fun au=>
Bo (E1 0 au) fun av=>
Bo (E1 0 av) fun aw=>
Bo (Fm (Am p) aw) fun bc=>
Af bc fun al=>
Bo (Fm (Am p) (AV.ptr 89 0)) fun bd=>
Af bd fun am=>
bif (al !=am) then (
Bo (Fm (Am p) (AV.ptr 0 21)) fun ax=>
Bo (Fm (Am p) (AV.ptr 89 0)) fun be=>
Af be fun ay=>
Bd pg KK.gl p 21 [ax,Aa ay] fun bf=>
Fs bf fun Qh c29=>
Ji Qh fun c30 c31 c32 So yH tP=>
Af c30 fun af=>
Af c31 fun ag=>
Af c32 fun ah=>
Af So fun ai=>
Af yH fun aj=>
Af tP fun ak=>
Af c29 fun aq=>
Il (Vu 329 47 6 1 [Aa (0),Aa (0),Aa (0),Aa (0),Aa (0),Aa (0)] [(0,(AV.agg [Aa af,Aa ag,Aa ah,Aa ai,Aa aj,Aa ak]))]) ((323,some ⟨[Aa af,Aa ag,Aa ah,Aa ai,Aa aj,Aa ak],47⟩)::(323,some ⟨[Aa (0),Aa (0),Aa (0),Aa (0),Aa (0),Aa (0)],47⟩)::p) fun az bg=>
Ez pg KK.gl bg 330 65 [b,Aa u,az] fun ar bh=>
Bo (Ed ar) fun bi=>
Af bi fun bj=>
C6 pg KK 141 0 (.loop Pz) ⟨[(0,(AV.agg [AV.sc (.string v),Aa w,Aa g,AV.sc (.string x),s,f,Aa e,Aa y,Aa z,Aa h,Aa aa,Aa ab,AV.sc (.string i),Aa j,Aa k,Aa l,Aa m,Aa n,Aa o,Aa ad,Aa ae,t])),(1,(AV.ptr 0 0)),(2,AV.B1),(3,(Aa (0))),(17,(AV.ptr 0 12)),(18,(AV.agg [AV.sc (.string i),Aa j,Aa k,Aa l,Aa m,Aa n,Aa o])),(19,(AV.ptr 0 6)),(20,(AV.ptr 0 6)),(21,(AV.ptr 0 9)),(22,(Aa h)),(23,(AV.ptr 0 0)),(24,(AV.ptr 0 2)),(25,(Aa g)),(26,(AV.B4 [Aa a,Aa c])),(16,(AV.B4 [Aa a,Aa c])),(27,(Aa a)),(28,(Aa c)),(4,(Aa a)),(5,(Aa c)),(29,(Aa c)),(30,(Ah (c !=(0)))),(32,(AV.ptr 0 6)),(33,(AV.ptr 0 6)),(34,(AV.ptr 0 6)),(35,(Aa e)),(36,(Aa a)),(37,(Aa (IntKind.wrap .i64 (e+a)))),(6,(AV.ptr 89 0)),(38,(AV.ptr 0 5)),(39,f),(40,b),(7,ar),(41,b),(42,(Aa d)),(8,(Aa d)),(43,(Aa a)),(44,(Ah (decide (a>(0))))),(45,(Ah true)),(46,(Aa d)),(47,(Ah (decide (d>(0))))),(48,(Ah (decide (d>(0))))),(49,(Ah true)),(50,(Aa q)),(51,b),(52,(Aa d)),(53,(Aa (IntKind.wrap .i64 (d-(1))))),(54,an),(55,ao),(56,ap),(57,(Aa r)),(58,(Ah (decide (q<r)))),(59,(Ah (decide (q<r)))),(60,b),(61,(AV.fn 64 [AV.ptr 89 0])),(62,(Aa u)),(9,(Aa u)),(63,b),(64,(Aa u)),(65,au),(66,av),(67,aw),(68,(Aa al)),(69,(Aa am)),(70,(Ah (al !=am))),(72,(AV.ptr 0 21)),(73,ax),(74,(Aa ay)),(75,(AV.B4 [AV.agg [Aa af,Aa ag,Aa ah,Aa ai,Aa aj,Aa ak],Aa aq])),(71,(AV.B4 [AV.agg [Aa af,Aa ag,Aa ah,Aa ai,Aa aj,Aa ak],Aa aq])),(76,(AV.agg [Aa af,Aa ag,Aa ah,Aa ai,Aa aj,Aa ak])),(77,(Aa aq)),(10,(AV.ptr 323 0)),(11,(Aa aq)),(78,b),(79,(Aa u)),(80,(AV.agg [Aa af,Aa ag,Aa ah,Aa ai,Aa aj,Aa ak])),(81,az),(82,ar),(83,ar),(84,(Aa bj)),(85,(Aa (0)))],bh,398⟩ (P5 R)) else (
Bo (Ed b) fun bk=>
Af bk fun bl=>
C6 pg KK 141 0 (.loop Pz) ⟨[(0,(AV.agg [AV.sc (.string v),Aa w,Aa g,AV.sc (.string x),s,f,Aa e,Aa y,Aa z,Aa h,Aa aa,Aa ab,AV.sc (.string i),Aa j,Aa k,Aa l,Aa m,Aa n,Aa o,Aa ad,Aa ae,t])),(1,(AV.ptr 0 0)),(2,AV.B1),(3,(Aa (0))),(17,(AV.ptr 0 12)),(18,(AV.agg [AV.sc (.string i),Aa j,Aa k,Aa l,Aa m,Aa n,Aa o])),(19,(AV.ptr 0 6)),(20,(AV.ptr 0 6)),(21,(AV.ptr 0 9)),(22,(Aa h)),(23,(AV.ptr 0 0)),(24,(AV.ptr 0 2)),(25,(Aa g)),(26,(AV.B4 [Aa a,Aa c])),(16,(AV.B4 [Aa a,Aa c])),(27,(Aa a)),(28,(Aa c)),(4,(Aa a)),(5,(Aa c)),(29,(Aa c)),(30,(Ah (c !=(0)))),(32,(AV.ptr 0 6)),(33,(AV.ptr 0 6)),(34,(AV.ptr 0 6)),(35,(Aa e)),(36,(Aa a)),(37,(Aa (IntKind.wrap .i64 (e+a)))),(6,(AV.ptr 89 0)),(38,(AV.ptr 0 5)),(39,f),(40,b),(7,b),(41,b),(42,(Aa d)),(8,(Aa d)),(43,(Aa a)),(44,(Ah (decide (a>(0))))),(45,(Ah true)),(46,(Aa d)),(47,(Ah (decide (d>(0))))),(48,(Ah (decide (d>(0))))),(49,(Ah true)),(50,(Aa q)),(51,b),(52,(Aa d)),(53,(Aa (IntKind.wrap .i64 (d-(1))))),(54,an),(55,ao),(56,ap),(57,(Aa r)),(58,(Ah (decide (q<r)))),(59,(Ah (decide (q<r)))),(60,b),(61,(AV.fn 64 [AV.ptr 89 0])),(62,(Aa u)),(9,(Aa u)),(63,b),(64,(Aa u)),(65,au),(66,av),(67,aw),(68,(Aa al)),(69,(Aa am)),(70,(Ah (al !=am))),(83,b),(84,(Aa bl)),(85,(Aa (0)))],p,256⟩ (P5 R))) else (
Bo (Ed b) fun bm=>
Af bm fun bn=>
C6 pg KK 141 0 (.loop Pz) ⟨[(0,(AV.agg [AV.sc (.string v),Aa w,Aa g,AV.sc (.string x),s,f,Aa e,Aa y,Aa z,Aa h,Aa aa,Aa ab,AV.sc (.string i),Aa j,Aa k,Aa l,Aa m,Aa n,Aa o,Aa ad,Aa ae,t])),(1,(AV.ptr 0 0)),(2,AV.B1),(3,(Aa (0))),(17,(AV.ptr 0 12)),(18,(AV.agg [AV.sc (.string i),Aa j,Aa k,Aa l,Aa m,Aa n,Aa o])),(19,(AV.ptr 0 6)),(20,(AV.ptr 0 6)),(21,(AV.ptr 0 9)),(22,(Aa h)),(23,(AV.ptr 0 0)),(24,(AV.ptr 0 2)),(25,(Aa g)),(26,(AV.B4 [Aa a,Aa c])),(16,(AV.B4 [Aa a,Aa c])),(27,(Aa a)),(28,(Aa c)),(4,(Aa a)),(5,(Aa c)),(29,(Aa c)),(30,(Ah (c !=(0)))),(32,(AV.ptr 0 6)),(33,(AV.ptr 0 6)),(34,(AV.ptr 0 6)),(35,(Aa e)),(36,(Aa a)),(37,(Aa (IntKind.wrap .i64 (e+a)))),(6,(AV.ptr 89 0)),(38,(AV.ptr 0 5)),(39,f),(40,b),(7,b),(41,b),(42,(Aa d)),(8,(Aa d)),(43,(Aa a)),(44,(Ah (decide (a>(0))))),(45,(Ah true)),(46,(Aa d)),(47,(Ah (decide (d>(0))))),(48,(Ah (decide (d>(0))))),(49,(Ah true)),(50,(Aa q)),(51,b),(52,(Aa d)),(53,(Aa (IntKind.wrap .i64 (d-(1))))),(54,an),(55,ao),(56,ap),(57,(Aa r)),(58,(Ah (decide (q<r)))),(59,(Ah (decide (q<r)))),(83,b),(84,(Aa bn)),(85,(Aa (0)))],p,181⟩ (P5 R))) else (
Bo (Ed b) fun bo=>
Af bo fun bp=>
C6 pg KK 141 0 (.loop Pz) ⟨[(0,(AV.agg [AV.sc (.string v),Aa w,Aa g,AV.sc (.string x),s,f,Aa e,Aa y,Aa z,Aa h,Aa aa,Aa ab,AV.sc (.string i),Aa j,Aa k,Aa l,Aa m,Aa n,Aa o,Aa ad,Aa ae,t])),(1,(AV.ptr 0 0)),(2,AV.B1),(3,(Aa (0))),(17,(AV.ptr 0 12)),(18,(AV.agg [AV.sc (.string i),Aa j,Aa k,Aa l,Aa m,Aa n,Aa o])),(19,(AV.ptr 0 6)),(20,(AV.ptr 0 6)),(21,(AV.ptr 0 9)),(22,(Aa h)),(23,(AV.ptr 0 0)),(24,(AV.ptr 0 2)),(25,(Aa g)),(26,(AV.B4 [Aa a,Aa c])),(16,(AV.B4 [Aa a,Aa c])),(27,(Aa a)),(28,(Aa c)),(4,(Aa a)),(5,(Aa c)),(29,(Aa c)),(30,(Ah (c !=(0)))),(32,(AV.ptr 0 6)),(33,(AV.ptr 0 6)),(34,(AV.ptr 0 6)),(35,(Aa e)),(36,(Aa a)),(37,(Aa (IntKind.wrap .i64 (e+a)))),(6,(AV.ptr 89 0)),(38,(AV.ptr 0 5)),(39,f),(40,b),(7,b),(41,b),(42,(Aa d)),(8,(Aa d)),(43,(Aa a)),(44,(Ah (decide (a>(0))))),(45,(Ah true)),(46,(Aa d)),(47,(Ah (decide (d>(0))))),(48,(Ah (decide (d>(0))))),(49,(Ah false)),(50,(AV.B4 [])),(51,(AV.B4 [])),(52,(AV.B4 [])),(53,(AV.B4 [])),(54,(AV.B4 [])),(55,(AV.B4 [])),(56,(AV.B4 [])),(57,(AV.B4 [])),(58,(AV.B4 [])),(59,(Ah false)),(83,b),(84,(Aa bp)),(85,(Aa (0)))],p,181⟩ (P5 R))) else (
Bo (Ed b) fun bq=>
Af bq fun br=>
C6 pg KK 141 0 (.loop Pz) ⟨[(0,(AV.agg [AV.sc (.string v),Aa w,Aa g,AV.sc (.string x),s,f,Aa e,Aa y,Aa z,Aa h,Aa aa,Aa ab,AV.sc (.string i),Aa j,Aa k,Aa l,Aa m,Aa n,Aa o,Aa ad,Aa ae,t])),(1,(AV.ptr 0 0)),(2,AV.B1),(3,(Aa (0))),(17,(AV.ptr 0 12)),(18,(AV.agg [AV.sc (.string i),Aa j,Aa k,Aa l,Aa m,Aa n,Aa o])),(19,(AV.ptr 0 6)),(20,(AV.ptr 0 6)),(21,(AV.ptr 0 9)),(22,(Aa h)),(23,(AV.ptr 0 0)),(24,(AV.ptr 0 2)),(25,(Aa g)),(26,(AV.B4 [Aa a,Aa c])),(16,(AV.B4 [Aa a,Aa c])),(27,(Aa a)),(28,(Aa c)),(4,(Aa a)),(5,(Aa c)),(29,(Aa c)),(30,(Ah (c !=(0)))),(32,(AV.ptr 0 6)),(33,(AV.ptr 0 6)),(34,(AV.ptr 0 6)),(35,(Aa e)),(36,(Aa a)),(37,(Aa (IntKind.wrap .i64 (e+a)))),(6,(AV.ptr 89 0)),(38,(AV.ptr 0 5)),(39,f),(40,b),(7,b),(41,b),(42,(Aa d)),(8,(Aa d)),(43,(Aa a)),(44,(Ah (decide (a>(0))))),(45,(Ah false)),(46,(AV.B4 [])),(47,(AV.B4 [])),(48,(Ah false)),(49,(Ah false)),(50,(AV.B4 [])),(51,(AV.B4 [])),(52,(AV.B4 [])),(53,(AV.B4 [])),(54,(AV.B4 [])),(55,(AV.B4 [])),(56,(AV.B4 [])),(57,(AV.B4 [])),(58,(AV.B4 [])),(59,(Ah false)),(83,b),(84,(Aa br)),(85,(Aa (0)))],p,181⟩ (P5 R)))
theorem tT (a:ByteArray) (b c:Int) (d:ByteArray) (e f:AV) (g i j k l m:Int) (n:ByteArray) (o p q r s t u v:Int) (w:AV) (R:AV→Mem→Prop) (h:F44 a b c d e f g i j k l m n o p q r s t u v w R):Own pg KK.gl 44 [AV.agg [AV.sc (.string a),Aa b,Aa c,AV.sc (.string d),e,f,Aa g,Aa i,Aa j,Aa k,Aa l,Aa m,AV.sc (.string n),Aa o,Aa p,Aa q,Aa r,Aa s,Aa t,Aa u,Aa v,w]] R:=Bk Ee Tryz.func44 (code:=Yq) Bi Bi Bi (X:=F44 a b c d e f g i j k l m n o p q r s t u v w R) Bi h
noncomputable def c67:Code:=((Tryz.f67).body).getD .skip
noncomputable def q67 (R:AV→Mem→Prop):Bh→St→Prop:=C8 pg Tryz.f67 R
noncomputable def F67 (g:ByteArray) (h i:Int) (j:ByteArray) (b a:AV) (c d e k l m:Int) (n:ByteArray) (o p q r s t u v:Int) (f:AV) (R:AV→Mem→Prop):Prop:=
Jj (Cq b)<|Jj (Cq a)<|Jj (Cq f)<|Bo (Eb 6 a (Aa (0))) fun w=>
Bo (E1 0 w) fun x=>
Bo (E1 1 x) fun y=>
Bo (Iv (Am ((0,some ⟨[AV.sc (.string g),Aa h,Aa i,AV.sc (.string j),b,a,Aa c,Aa d,Aa e,Aa k,Aa l,Aa m,AV.sc (.string n),Aa o,Aa p,Aa q,Aa r,Aa s,Aa t,Aa u,Aa v,f],72⟩)::[])) 2 y) fun z=>
I3 z fun c4 c5=>
Af c4 fun z6=>
Af c5 fun z7=>
Bd pg KK.gl ((0,some ⟨[AV.sc (.string g),Aa h,Aa i,AV.sc (.string j),b,a,Aa c,Aa d,Aa e,Aa k,Aa l,Aa m,AV.sc (.string n),Aa o,Aa p,Aa q,Aa r,Aa s,Aa t,Aa u,Aa v,f],72⟩)::[]) 43 [AV.agg [Aa d,Aa e],AV.agg [Aa z6,Aa z7]] fun v8=>
Fs v8 fun c9 K5=>
Af c9 fun aa=>
Af K5 fun aj=>
Bo (Eb 6 a (Aa (0))) fun ab=>
Bo (E1 0 ab) fun ad=>
Bo (E1 0 ad) fun ae=>
Bo (Fm (Am ((0,some ⟨[AV.sc (.string g),Aa h,Aa i,AV.sc (.string j),b,a,Aa c,Aa d,Aa e,Aa k,Aa l,Aa m,AV.sc (.string n),Aa o,Aa p,Aa q,Aa r,Aa s,Aa t,Aa u,Aa v,f],72⟩)::[])) ae) fun af=>
Af af fun ag=>
Bo (Cs pg (.binOp .quo 3 (.tmp 0) (.tmp 1) 3) 3 [Aa aa,Aa (IntKind.wrap .i64 (ag-c))] (Am ((0,some ⟨[AV.sc (.string g),Aa h,Aa i,AV.sc (.string j),b,a,Aa c,Aa d,Aa e,Aa k,Aa l,Aa m,AV.sc (.string n),Aa o,Aa p,Aa q,Aa r,Aa s,Aa t,Aa u,Aa v,f],72⟩)::[])) 30) fun ah=>
Af ah fun ai=>
A2 R ((0,some ⟨[AV.sc (.string g),Aa h,Aa i,AV.sc (.string j),b,a,Aa c,Aa d,Aa e,Aa k,Aa l,Aa m,AV.sc (.string n),Aa o,Aa p,Aa q,Aa r,Aa s,Aa t,Aa u,Aa v,f],72⟩)::[]) [some (Aa ai)]
theorem vL (a:ByteArray) (b c:Int) (d:ByteArray) (e f:AV) (g i j k l m:Int) (n:ByteArray) (o p q r s t u v:Int) (w:AV) (R:AV→Mem→Prop) (h:F67 a b c d e f g i j k l m n o p q r s t u v w R):Own pg KK.gl 67 [AV.agg [AV.sc (.string a),Aa b,Aa c,AV.sc (.string d),e,f,Aa g,Aa i,Aa j,Aa k,Aa l,Aa m,AV.sc (.string n),Aa o,Aa p,Aa q,Aa r,Aa s,Aa t,Aa u,Aa v,w]] R:=Bk Ee Tryz.func67 (code:=c67) Bi Bi Bi (X:=F67 a b c d e f g i j k l m n o p q r s t u v w R) Bi h
noncomputable def c68:Code:=((Tryz.f68).body).getD .skip
noncomputable def q68 (R:AV→Mem→Prop):Bh→St→Prop:=C8 pg Tryz.f68 R
noncomputable def F68 (a b c d:Int) (R:AV→Mem→Prop):Prop:=
Bo (N8 [Aa (0),Aa (0)] [(0,1),(1,1)] [(0,(Aa (IntKind.wrap .i64 (a+c)))),(1,(Aa (IntKind.wrap .i64 (b+d))))]) fun e=>
Cw pg (Am ((2,some ⟨[Aa (0),Aa (0)],42⟩)::(1,some ⟨[Aa c,Aa d],42⟩)::(0,some ⟨[Aa a,Aa b],42⟩)::[])) 42 (AV.ptr 2 0) e fun f d1=>
A2 R (Ag ((2,some ⟨[Aa (0),Aa (0)],42⟩)::(1,some ⟨[Aa c,Aa d],42⟩)::(0,some ⟨[Aa a,Aa b],42⟩)::[]) d1) [(Fq pg (Am (Ag ((2,some ⟨[Aa (0),Aa (0)],42⟩)::(1,some ⟨[Aa c,Aa d],42⟩)::(0,some ⟨[Aa a,Aa b],42⟩)::[]) d1)) 42 (AV.ptr 2 0)).map (·.1)]
theorem rR (a b c d:Int) (R:AV→Mem→Prop) (h:F68 a b c d R):Own pg KK.gl 68 [AV.agg [Aa a,Aa b],AV.agg [Aa c,Aa d]] R:=Bk Ee Tryz.func68 (code:=c68) Bi Bi Bi (X:=F68 a b c d R) Bi h
noncomputable def c45:Code:=((Tryz.f45).body).getD .skip
noncomputable def q45 (R:AV→Mem→Prop):Bh→St→Prop:=C8 pg Tryz.f45 R
noncomputable def eF:Code:=Ey c45 0
noncomputable def eW (R:AV→Mem→Prop):Bh→St→Prop:=Ew pg KK 64 0 c45 0 (q45 R)
noncomputable def Acf (R:AV→Mem→Prop) (N0:St→Prop):Bh→St→Prop:=Ex N0 (eW R)
def Uh (a:AV) (b:Int) (c:AV) (d e:Int) (m:Mem):St:=⟨[(1,(AV.ptr 0 0)),(2,a),(3,(Aa b)),(4,c),(13,(Aa d)),(14,(Aa e))],m,100000⟩
noncomputable def dO (t2:AV) (t3:Int) (b:AV) (j a:Int) (m:Mem) (R:AV→Mem→Prop) (N0:St→Prop):Prop:=
bif (decide (a<j)) then (
J4 (Fm (Dw m (Bv (AV.ptr 0 2)++([]))) (AV.ptr 0 2)) fun v3 d3=>
Af v3 fun l=>
J4 (Iv (Dw (Ag m d3) (Bv (AV.ptr 0 0)++([]))) 22 (AV.ptr 0 0)) fun v5 d5=>
kI v5 fun c6 c7 c8 c9 K5 n ax ay az ba bb Gx oY vP Uv c21 Z1 Zn bc Pn Si S6=>
Em c6 fun s28=>
Af c7 fun o=>
Af c8 fun p=>
Em c9 fun s31=>
Af ax fun q=>
Af ay fun r=>
Af az fun s=>
Af ba fun t=>
Af bb fun u=>
Af Gx fun v=>
Em oY fun s38=>
Af vP fun w=>
Af Uv fun x=>
Af c21 fun y=>
Af Z1 fun z=>
Af Zn fun aa=>
Af bc fun ab=>
Af Pn fun ad=>
Af Si fun ae=>
dG pg KK.gl (Ag (Ag m d3) d5) 100007 67 [AV.agg [AV.sc (.string s28),Aa o,Aa p,AV.sc (.string s31),K5,n,Aa q,Aa r,Aa s,Aa t,Aa u,Aa v,AV.sc (.string s38),Aa w,Aa x,Aa y,Aa z,Aa aa,Aa ab,Aa ad,Aa ae,S6]] fun bd d47 ft47=>
Af bd fun k=>
J4 (Eb 6 b (Aa a)) fun af d49=>
J4 (E1 0 af) fun ag d50=>
J4 (E1 0 ag) fun g d51=>
J4 (Fm (Dw (Ag (Ag (Ag (Ag (Ag (Ag m d3) d5) d47) d49) d50) d51) (Bv g++([]))) g) fun be d52=>
Af be fun h=>
J4 (Fm (Dw (Ag (Ag (Ag (Ag (Ag (Ag (Ag m d3) d5) d47) d49) d50) d51) d52) (Bv (AV.ptr 0 6)++([]))) (AV.ptr 0 6)) fun bf d54=>
Af bf fun i=>
dG pg KK.gl (Ag (Ag (Ag (Ag (Ag (Ag (Ag (Ag m d3) d5) d47) d49) d50) d51) d52) d54) 100020 66 [Aa l,Aa (IntKind.wrap .i64 (k*(IntKind.wrap .i64 (h-i))))] fun bg d56 ft56=>
Fs bg fun Nw c58=>
I3 Nw fun c59 c60=>
Af c59 fun d=>
Af c60 fun e=>
Af c58 fun c=>
Cw pg (Dw ((100024,some ⟨[Aa (0),Aa (0)],42⟩)::(Ag (Ag (Ag (Ag (Ag (Ag (Ag (Ag (Ag m d3) d5) d47) d49) d50) d51) d52) d54) d56)) (Bv (AV.ptr 100024 0)++(Bv (AV.agg [Aa d,Aa e])++([])))) 42 (AV.ptr 100024 0) (AV.agg [Aa d,Aa e]) fun bn d64=>
Jj (F4 [0,1,3,0,8,0,0,96,224,480,992,0,2048,6144,14336,32736,65528,131071,262143,524287,524287,0,3145727,8388607] [⟨[],[]⟩,⟨[],[]⟩,⟨d3,Bv (AV.ptr 0 2)++([])⟩,⟨d5,Bv (AV.ptr 0 0)++([])⟩,⟨d47,ft47⟩,⟨[],[]⟩,⟨[],[]⟩,⟨d49,[]⟩,⟨d50,[]⟩,⟨d51,[]⟩,⟨d52,Bv g++([])⟩,⟨[],[]⟩,⟨[],[]⟩,⟨[],[]⟩,⟨d54,Bv (AV.ptr 0 6)++([])⟩,⟨[],[]⟩,⟨[],[]⟩,⟨d56,ft56⟩,⟨[],[]⟩,⟨[],[]⟩,⟨[],[]⟩,⟨[(100024,some ⟨[Aa (0),Aa (0)],42⟩)],[]⟩,⟨d64,Bv (AV.ptr 100024 0)++(Bv (AV.agg [Aa d,Aa e])++([]))⟩,⟨[],[]⟩]) (bif (c !=(0)) then (
A2 R (Ag ((100024,some ⟨[Aa (0),Aa (0)],42⟩)::(Ag (Ag (Ag (Ag (Ag (Ag (Ag (Ag (Ag m d3) d5) d47) d49) d50) d51) d52) d54) d56)) d64) [some AV.B1,some (Aa c)]) else (
Bo (Iv (Am (Ag ((100024,some ⟨[Aa (0),Aa (0)],42⟩)::(Ag (Ag (Ag (Ag (Ag (Ag (Ag (Ag (Ag m d3) d5) d47) d49) d50) d51) d52) d54) d56)) d64)) 2 (AV.ptr 0 7)) fun bh=>
I3 bh fun c66 c67=>
Af c66 fun ah=>
Af c67 fun ai=>
Bo (Iv (Am (Ag ((100024,some ⟨[Aa (0),Aa (0)],42⟩)::(Ag (Ag (Ag (Ag (Ag (Ag (Ag (Ag (Ag m d3) d5) d47) d49) d50) d51) d52) d54) d56)) d64)) 2 (AV.ptr 100024 0)) fun bi=>
I3 bi fun c71 bj=>
Af c71 fun aj=>
Af bj fun ak=>
Bd pg KK.gl (Ag ((100024,some ⟨[Aa (0),Aa (0)],42⟩)::(Ag (Ag (Ag (Ag (Ag (Ag (Ag (Ag (Ag m d3) d5) d47) d49) d50) d51) d52) d54) d56)) d64) 68 [AV.agg [Aa ah,Aa ai],AV.agg [Aa aj,Aa ak]] fun bk=>
I3 bk fun c76 c77=>
Af c76 fun al=>
Af c77 fun am=>
Bo (Eb 6 b (Aa a)) fun an=>
Bo (E1 0 an) fun ao=>
Bo (E1 1 ao) fun ap=>
Cw pg (Am (Ag ((100024,some ⟨[Aa (0),Aa (0)],42⟩)::(Ag (Ag (Ag (Ag (Ag (Ag (Ag (Ag (Ag m d3) d5) d47) d49) d50) d51) d52) d54) d56)) d64)) 42 ap (AV.agg [Aa al,Aa am]) fun bo d83=>
Bo (Eb 6 b (Aa a)) fun aq=>
Bo (E1 0 aq) fun ar=>
Bo (E1 1 ar) fun au=>
Bo (Iv (Am (Ag (Ag ((100024,some ⟨[Aa (0),Aa (0)],42⟩)::(Ag (Ag (Ag (Ag (Ag (Ag (Ag (Ag (Ag m d3) d5) d47) d49) d50) d51) d52) d54) d56)) d64) d83)) 2 au) fun bl=>
I3 bl fun yW c89=>
Af yW fun av=>
Af c89 fun aw=>
Bd pg KK.gl (Ag (Ag ((100024,some ⟨[Aa (0),Aa (0)],42⟩)::(Ag (Ag (Ag (Ag (Ag (Ag (Ag (Ag (Ag m d3) d5) d47) d49) d50) d51) d52) d54) d56)) d64) d83) 30 [AV.agg [Aa av,Aa aw]] fun bm=>
Af bm fun f=>
bif (f !=(0)) then (
A2 R (Ag (Ag ((100024,some ⟨[Aa (0),Aa (0)],42⟩)::(Ag (Ag (Ag (Ag (Ag (Ag (Ag (Ag (Ag m d3) d5) d47) d49) d50) d51) d52) d54) d56)) d64) d83) [some AV.B1,some (Aa f)]) else (
N0 ⟨[(1,(AV.ptr 0 0)),(2,t2),(3,(Aa t3)),(4,b),(13,(Aa j)),(14,(Aa (IntKind.wrap .i64 (a+(1))))),(15,(Ah (decide (a<j)))),(16,(Aa a)),(5,(Aa a)),(18,(AV.ptr 0 0)),(19,(AV.ptr 0 2)),(20,(Aa l)),(21,(AV.agg [AV.sc (.string s28),Aa o,Aa p,AV.sc (.string s31),K5,n,Aa q,Aa r,Aa s,Aa t,Aa u,Aa v,AV.sc (.string s38),Aa w,Aa x,Aa y,Aa z,Aa aa,Aa ab,Aa ad,Aa ae,S6])),(22,(Aa k)),(23,b),(24,(Aa a)),(25,af),(26,ag),(27,g),(28,(Aa h)),(29,(AV.ptr 0 6)),(30,(AV.ptr 0 6)),(31,(AV.ptr 0 6)),(32,(Aa i)),(33,(Aa (IntKind.wrap .i64 (h-i)))),(34,(Aa (IntKind.wrap .i64 (k*(IntKind.wrap .i64 (h-i)))))),(35,(AV.B4 [AV.agg [Aa d,Aa e],Aa c])),(17,(AV.B4 [AV.agg [Aa d,Aa e],Aa c])),(36,(AV.agg [Aa d,Aa e])),(37,(Aa c)),(6,(AV.ptr 100024 0)),(7,(Aa c)),(38,(Aa c)),(39,(Ah (c !=(0)))),(41,b),(42,(Aa a)),(43,(AV.ptr 0 6)),(44,(AV.ptr 0 6)),(45,(AV.ptr 0 7)),(46,(AV.agg [Aa ah,Aa ai])),(47,(AV.agg [Aa aj,Aa ak])),(48,(AV.agg [Aa al,Aa am])),(49,an),(50,ao),(51,ap),(52,b),(53,(Aa a)),(54,aq),(55,ar),(56,au),(57,(AV.agg [Aa av,Aa aw])),(58,(Aa f)),(8,(Aa f)),(59,(Aa f)),(60,(Ah (f !=(0)))),(62,(Aa (IntKind.wrap .i64 (a+(1)))))],Ag (Ag ((100024,some ⟨[Aa (0),Aa (0)],42⟩)::(Ag (Ag (Ag (Ag (Ag (Ag (Ag (Ag (Ag m d3) d5) d47) d49) d50) d51) d52) d54) d56)) d64) d83,100179⟩)))) else (
A2 R m [some b,some (Aa (0))])
theorem l6 (a:AV) (b:Int) (c:AV) (d e:Int) (m:Mem) (R:AV→Mem→Prop) (N0:St→Prop):W pg KK 64 0 eF (Uh a b c d e m) (Acf R N0)=dO a b c d e m R N0:=by kernel_rfl
theorem Adz (R:AV→Mem→Prop) {σ:Type} (I:σ→Prop) (a:σ→AV) (b:σ→Int) (c:σ→AV) (d e:σ→Int) (m:σ→Mem) (μ:σ→Nat) (step:∀x,I x→dO (a x) (b x) (c x) (d x) (e x) (m x) R (fun s'=>∃y,I y∧μ y<μ x∧Cl KK 64 0 s' (Uh (a y) (b y) (c y) (d y) (e y) (m y)))) (x:σ) (hx:I x) {s:St} (hw:Cl KK 64 0 s (Uh (a x) (b x) (c x) (d x) (e x) (m x))):C6 pg KK 64 0 (.loop eF) s (eW R):=
 C6.He hw (C6.loops Ee I (fun x=>Uh (a x) (b x) (c x) (d x) (e x) (m x)) μ (fun x hx=>(l6 (a x) (b x) (c x) (d x) (e x) (m x) R _).mpr (step x hx)) x hx)
noncomputable def F45 (e:ByteArray) (f g:Int) (h:ByteArray) (c a:AV) (i j k l m n:Int) (o:ByteArray) (p q r s t u v w:Int) (d:AV) (R:AV→Mem→Prop):Prop:=
Jj (Cq c)<|Jj (Cq a)<|Jj (Cq d)<|Ez pg KK.gl ((0,some ⟨[AV.sc (.string e),Aa f,Aa g,AV.sc (.string h),c,a,Aa i,Aa j,Aa k,Aa l,Aa m,Aa n,AV.sc (.string o),Aa p,Aa q,Aa r,Aa s,Aa t,Aa u,Aa v,Aa w,d],72⟩)::[]) 5 32 [a] fun b x=>
Bo (Ed b) fun y=>
Af y fun z=>
C6 pg KK 64 0 (.loop eF) ⟨[(0,(AV.agg [AV.sc (.string e),Aa f,Aa g,AV.sc (.string h),c,a,Aa i,Aa j,Aa k,Aa l,Aa m,Aa n,AV.sc (.string o),Aa p,Aa q,Aa r,Aa s,Aa t,Aa u,Aa v,Aa w,d])),(1,(AV.ptr 0 0)),(2,AV.B1),(3,(Aa (0))),(9,(AV.ptr 0 5)),(10,a),(11,b),(4,b),(12,b),(13,(Aa z)),(14,(Aa (0)))],x,73⟩ (eW R)
theorem wX (a:ByteArray) (b c:Int) (d:ByteArray) (e f:AV) (g i j k l m:Int) (n:ByteArray) (o p q r s t u v:Int) (w:AV) (R:AV→Mem→Prop) (h:F45 a b c d e f g i j k l m n o p q r s t u v w R):Own pg KK.gl 45 [AV.agg [AV.sc (.string a),Aa b,Aa c,AV.sc (.string d),e,f,Aa g,Aa i,Aa j,Aa k,Aa l,Aa m,AV.sc (.string n),Aa o,Aa p,Aa q,Aa r,Aa s,Aa t,Aa u,Aa v,w]] R:=Bk Ee Tryz.func45 (code:=c45) Bi Bi Bi (X:=F45 a b c d e f g i j k l m n o p q r s t u v w R) Bi h
noncomputable def c46:Code:=((Tryz.f46).body).getD .skip
noncomputable def q46 (R:AV→Mem→Prop):Bh→St→Prop:=C8 pg Tryz.f46 R
noncomputable def bM:Code:=Ey c46 0
noncomputable def dU (R:AV→Mem→Prop):Bh→St→Prop:=Ew pg KK 82 0 c46 0 (q46 R)
noncomputable def zG (R:AV→Mem→Prop) (N0:St→Prop):Bh→St→Prop:=Ex N0 (dU R)
def Tb (a:AV) (b:Int) (c:AV) (d e f g h i j k:Int) (m:Mem):St:=⟨[(1,(AV.ptr 0 0)),(2,a),(3,(Aa b)),(4,c),(5,(AV.ptr 88 0)),(33,(Aa d)),(34,(Aa e))],((88,some ⟨[Aa f,Aa g,Aa h,Aa i,Aa j,Aa k],47⟩)::m),100000⟩
noncomputable def bT (t2:AV) (t3:Int) (h:AV) (n b a c d e f g:Int) (m:Mem) (R:AV→Mem→Prop) (N0:St→Prop):Prop:=
bif (decide (b<n)) then (
Bo (Eb 6 h (Aa b)) fun q=>
Bo (E1 0 q) fun r=>
Bo (E1 1 r) fun s=>
Bo (Iv (Am ((88,some ⟨[Aa a,Aa c,Aa d,Aa e,Aa f,Aa g],47⟩)::m)) 2 s) fun ak=>
I3 ak fun Uv c21=>
Af Uv fun t=>
Af c21 fun u=>
Bd pg KK.gl ((88,some ⟨[Aa a,Aa c,Aa d,Aa e,Aa f,Aa g],47⟩)::m) 43 [AV.agg [Aa c,Aa d],AV.agg [Aa t,Aa u]] fun al=>
Fs al fun Pn Si=>
Af Pn fun k=>
Af Si fun i=>
Bo (Fm (Am ((88,some ⟨[Aa a,Aa c,Aa d,Aa e,Aa f,Aa g],47⟩)::m)) (AV.ptr 0 2)) fun am=>
Af am fun v=>
Bd pg KK.gl ((88,some ⟨[Aa a,Aa c,Aa d,Aa e,Aa f,Aa g],47⟩)::m) 54 [Aa i,Aa v] fun an=>
Fs an fun c32 So=>
Af c32 fun j=>
Af So fun l=>
Bo (Cs pg (.call ⟨.builtin .max,#[.tmp 0,.tmp 1],#[3,3]⟩) 3 [Aa (1),Aa j] (Am ((88,some ⟨[Aa a,Aa c,Aa d,Aa e,Aa f,Aa g],47⟩)::m)) 100097) fun ao=>
Af ao fun o=>
Bo (Eb 6 h (Aa b)) fun w=>
Bo (E1 0 w) fun x=>
Bo (E1 0 x) fun y=>
Cw pg (Am ((88,some ⟨[Aa a,Aa c,Aa d,Aa e,Aa f,Aa g],47⟩)::m)) 3 y (Aa (IntKind.wrap .i64 (a+o))) fun ar d41=>
Bo (Eb 6 h (Aa b)) fun z=>
Bo (E1 0 z) fun aa=>
Bo (E1 0 aa) fun ab=>
Bo (Fm (Am (Ag ((88,some ⟨[Aa a,Aa c,Aa d,Aa e,Aa f,Aa g],47⟩)::m) d41)) ab) fun ap=>
Af ap fun p=>
bif (decide (p>(200000))) then (
A2 R (Ag ((88,some ⟨[Aa a,Aa c,Aa d,Aa e,Aa f,Aa g],47⟩)::m) d41) [some AV.B1,some (Aa (12))]) else (
Bo (Eb 6 h (Aa b)) fun ad=>
Bo (Iv (Am (Ag ((88,some ⟨[Aa a,Aa c,Aa d,Aa e,Aa f,Aa g],47⟩)::m) d41)) 6 ad) fun aq=>
Ji aq fun c49 zA c51 c52 c53 c54=>
Af c49 fun ae=>
Af zA fun af=>
Af c51 fun ag=>
Af c52 fun ah=>
Af c53 fun ai=>
Af c54 fun aj=>
Cw pg (Am (Ag ((88,some ⟨[Aa a,Aa c,Aa d,Aa e,Aa f,Aa g],47⟩)::m) d41)) 47 (AV.ptr 88 0) (AV.agg [Aa ae,Aa af,Aa ag,Aa ah,Aa ai,Aa aj]) fun au d61=>
N0 ⟨[(1,(AV.ptr 0 0)),(2,t2),(3,(Aa t3)),(4,h),(5,(AV.ptr 88 0)),(33,(Aa n)),(34,(Aa (IntKind.wrap .i64 (b+(1))))),(35,(Ah (decide (b<n)))),(36,(Aa b)),(6,(Aa b)),(38,(AV.ptr 88 0)),(39,(AV.ptr 88 1)),(40,(AV.agg [Aa c,Aa d])),(41,h),(42,(Aa b)),(43,q),(44,r),(45,s),(46,(AV.agg [Aa t,Aa u])),(47,(AV.B4 [Aa k,Aa i])),(37,(AV.B4 [Aa k,Aa i])),(48,(Aa k)),(49,(Aa i)),(7,(Aa k)),(8,(Aa i)),(51,(Aa i)),(52,(AV.ptr 0 0)),(53,(AV.ptr 0 2)),(54,(Aa v)),(55,(AV.B4 [Aa j,Aa l])),(50,(AV.B4 [Aa j,Aa l])),(56,(Aa j)),(57,(Aa l)),(9,(Aa j)),(10,(Aa l)),(58,h),(59,(Aa b)),(60,(AV.ptr 88 0)),(61,(AV.ptr 88 0)),(62,(Aa a)),(63,(Aa j)),(64,(Aa o)),(65,(Aa (IntKind.wrap .i64 (a+o)))),(66,w),(67,x),(68,y),(69,h),(70,(Aa b)),(71,z),(72,aa),(73,ab),(74,(Aa p)),(75,(Ah (decide (p>(200000))))),(76,h),(77,(Aa b)),(78,ad),(79,(AV.agg [Aa ae,Aa af,Aa ag,Aa ah,Aa ai,Aa aj])),(80,(Aa (IntKind.wrap .i64 (b+(1)))))],Ag (Ag ((88,some ⟨[Aa a,Aa c,Aa d,Aa e,Aa f,Aa g],47⟩)::m) d41) d61,100117⟩)) else (
A2 R ((88,some ⟨[Aa a,Aa c,Aa d,Aa e,Aa f,Aa g],47⟩)::m) [some h,some (Aa (0))])
theorem mT (a:AV) (b:Int) (c:AV) (d e f g h i j k:Int) (m:Mem) (R:AV→Mem→Prop) (N0:St→Prop):W pg KK 82 0 bM (Tb a b c d e f g h i j k m) (zG R N0)=bT a b c d e f g h i j k m R N0:=by kernel_rfl
theorem Adl (R:AV→Mem→Prop) {σ:Type} (I:σ→Prop) (a:σ→AV) (b:σ→Int) (c:σ→AV) (d e f g h i j k:σ→Int) (m:σ→Mem) (μ:σ→Nat) (step:∀x,I x→bT (a x) (b x) (c x) (d x) (e x) (f x) (g x) (h x) (i x) (j x) (k x) (m x) R (fun s'=>∃y,I y∧μ y<μ x∧Cl KK 82 0 s' (Tb (a y) (b y) (c y) (d y) (e y) (f y) (g y) (h y) (i y) (j y) (k y) (m y)))) (x:σ) (hx:I x) {s:St} (hw:Cl KK 82 0 s (Tb (a x) (b x) (c x) (d x) (e x) (f x) (g x) (h x) (i x) (j x) (k x) (m x))):C6 pg KK 82 0 (.loop bM) s (dU R):=
 C6.He hw (C6.loops Ee I (fun x=>Tb (a x) (b x) (c x) (d x) (e x) (f x) (g x) (h x) (i x) (j x) (k x) (m x)) μ (fun x hx=>(mT (a x) (b x) (c x) (d x) (e x) (f x) (g x) (h x) (i x) (j x) (k x) (m x) R _).mpr (step x hx)) x hx)
noncomputable def F46 (g:ByteArray) (h a:Int) (i:ByteArray) (e c:AV) (j k l m n o:Int) (p:ByteArray) (q r s t d b u v:Int) (f:AV) (R:AV→Mem→Prop):Prop:=
Jj (Cq e)<|Jj (Cq c)<|Jj (Cq f)<|bif (decide (a<d)) then (
A2 R ((0,some ⟨[AV.sc (.string g),Aa h,Aa a,AV.sc (.string i),e,c,Aa j,Aa k,Aa l,Aa m,Aa n,Aa o,AV.sc (.string p),Aa q,Aa r,Aa s,Aa t,Aa d,Aa b,Aa u,Aa v,f],72⟩)::[]) [some AV.B1,some (Aa (4))]) else (
bif (decide (a>b)) then (
A2 R ((0,some ⟨[AV.sc (.string g),Aa h,Aa a,AV.sc (.string i),e,c,Aa j,Aa k,Aa l,Aa m,Aa n,Aa o,AV.sc (.string p),Aa q,Aa r,Aa s,Aa t,Aa d,Aa b,Aa u,Aa v,f],72⟩)::[]) [some AV.B1,some (Aa (4))]) else (
Ez pg KK.gl ((0,some ⟨[AV.sc (.string g),Aa h,Aa a,AV.sc (.string i),e,c,Aa j,Aa k,Aa l,Aa m,Aa n,Aa o,AV.sc (.string p),Aa q,Aa r,Aa s,Aa t,Aa d,Aa b,Aa u,Aa v,f],72⟩)::[]) 21 32 [c] fun w x=>
Bo (Iv (Am x) 6 (AV.ptr 0 6)) fun v1=>
Ji v1 fun c2 c3 c4 c5 c6 c7=>
Af c2 fun y=>
Af c3 fun z=>
Af c4 fun aa=>
Af c5 fun ab=>
Af c6 fun ad=>
Af c7 fun ae=>
Bo (Ed w) fun af=>
Af af fun ag=>
C6 pg KK 82 0 (.loop bM) ⟨[(0,(AV.agg [AV.sc (.string g),Aa h,Aa a,AV.sc (.string i),e,c,Aa j,Aa k,Aa l,Aa m,Aa n,Aa o,AV.sc (.string p),Aa q,Aa r,Aa s,Aa t,Aa d,Aa b,Aa u,Aa v,f])),(1,(AV.ptr 0 0)),(2,AV.B1),(3,(Aa (0))),(11,(AV.ptr 0 0)),(12,(AV.ptr 0 2)),(13,(Aa a)),(14,(AV.ptr 0 12)),(15,(AV.ptr 0 17)),(16,(Aa d)),(17,(Ah (decide (a<d)))),(18,(Ah false)),(19,(AV.ptr 0 0)),(20,(AV.ptr 0 2)),(21,(Aa a)),(22,(AV.ptr 0 12)),(23,(AV.ptr 0 18)),(24,(Aa b)),(25,(Ah (decide (a>b)))),(26,(Ah (decide (a>b)))),(27,(AV.ptr 0 5)),(28,c),(29,w),(4,w),(30,(AV.ptr 0 6)),(31,(AV.agg [Aa y,Aa z,Aa aa,Aa ab,Aa ad,Aa ae])),(5,(AV.ptr 88 0)),(32,w),(33,(Aa ag)),(34,(Aa (0)))],((88,some ⟨[Aa y,Aa z,Aa aa,Aa ab,Aa ad,Aa ae],47⟩)::(88,some ⟨[Aa (0),Aa (0),Aa (0),Aa (0),Aa (0),Aa (0)],47⟩)::x),93⟩ (dU R)))
theorem vY (a:ByteArray) (b c:Int) (d:ByteArray) (e f:AV) (g i j k l m:Int) (n:ByteArray) (o p q r s t u v:Int) (w:AV) (R:AV→Mem→Prop) (h:F46 a b c d e f g i j k l m n o p q r s t u v w R):Own pg KK.gl 46 [AV.agg [AV.sc (.string a),Aa b,Aa c,AV.sc (.string d),e,f,Aa g,Aa i,Aa j,Aa k,Aa l,Aa m,AV.sc (.string n),Aa o,Aa p,Aa q,Aa r,Aa s,Aa t,Aa u,Aa v,w]] R:=Bk Ee Tryz.func46 (code:=c46) Bi Bi Bi (X:=F46 a b c d e f g i j k l m n o p q r s t u v w R) Bi h
noncomputable def c47:Code:=((Tryz.f47).body).getD .skip
noncomputable def q47 (R:AV→Mem→Prop):Bh→St→Prop:=C8 pg Tryz.f47 R
noncomputable def F47 (l:ByteArray) (m n:Int) (o:ByteArray) (i j:AV) (a e f b c d:Int) (p:ByteArray) (q r s t u v g h:Int) (k:AV) (R:AV→Mem→Prop):Prop:=
Jj (Cq i)<|Jj (Cq j)<|Jj (Cq k)<|Bd pg KK.gl ((0,some ⟨[AV.sc (.string l),Aa m,Aa n,AV.sc (.string o),i,j,Aa a,Aa e,Aa f,Aa b,Aa c,Aa d,AV.sc (.string p),Aa q,Aa r,Aa s,Aa t,Aa u,Aa v,Aa g,Aa h,k],72⟩)::[]) 67 [AV.agg [AV.sc (.string l),Aa m,Aa n,AV.sc (.string o),i,j,Aa a,Aa e,Aa f,Aa b,Aa c,Aa d,AV.sc (.string p),Aa q,Aa r,Aa s,Aa t,Aa u,Aa v,Aa g,Aa h,k]] fun z=>
Af z fun x=>
bif (x==(0)) then (
A2 R ((0,some ⟨[AV.sc (.string l),Aa m,Aa n,AV.sc (.string o),i,j,Aa a,Aa e,Aa f,Aa b,Aa c,Aa d,AV.sc (.string p),Aa q,Aa r,Aa s,Aa t,Aa u,Aa v,Aa g,Aa h,k],72⟩)::[]) [some AV.B1,some (Aa (10))]) else (
Bd pg KK.gl ((0,some ⟨[AV.sc (.string l),Aa m,Aa n,AV.sc (.string o),i,j,Aa a,Aa e,Aa f,Aa b,Aa c,Aa d,AV.sc (.string p),Aa q,Aa r,Aa s,Aa t,Aa u,Aa v,Aa g,Aa h,k],72⟩)::[]) 43 [AV.agg [Aa e,Aa f],AV.agg [Aa g,Aa h]] fun v2=>
Fs v2 fun c3 c4=>
Af c3 fun z5=>
Af c4 fun y=>
bif (y==(0)) then (
A2 R ((0,some ⟨[AV.sc (.string l),Aa m,Aa n,AV.sc (.string o),i,j,Aa a,Aa e,Aa f,Aa b,Aa c,Aa d,AV.sc (.string p),Aa q,Aa r,Aa s,Aa t,Aa u,Aa v,Aa g,Aa h,k],72⟩)::[]) [some AV.B1,some (Aa (0))]) else (
Bd pg KK.gl ((0,some ⟨[AV.sc (.string l),Aa m,Aa n,AV.sc (.string o),i,j,Aa a,Aa e,Aa f,Aa b,Aa c,Aa d,AV.sc (.string p),Aa q,Aa r,Aa s,Aa t,Aa u,Aa v,Aa g,Aa h,k],72⟩)::[]) 54 [Aa y,Aa x] fun v7=>
Fs v7 fun c8 c9=>
Af c8 fun w=>
Af c9 fun ad=>
bif (decide ((IntKind.wrap .i64 (a+w))>(200000))) then (
A2 R ((221,some ⟨[Aa (IntKind.wrap .i64 (a+w)),Aa g,Aa h,Aa b,Aa c,Aa d],47⟩)::(221,some ⟨[Aa (IntKind.wrap .i64 (a+w)),Aa e,Aa f,Aa b,Aa c,Aa d],47⟩)::(221,some ⟨[Aa a,Aa e,Aa f,Aa b,Aa c,Aa d],47⟩)::(221,some ⟨[Aa (0),Aa (0),Aa (0),Aa (0),Aa (0),Aa (0)],47⟩)::(0,some ⟨[AV.sc (.string l),Aa m,Aa n,AV.sc (.string o),i,j,Aa a,Aa e,Aa f,Aa b,Aa c,Aa d,AV.sc (.string p),Aa q,Aa r,Aa s,Aa t,Aa u,Aa v,Aa g,Aa h,k],72⟩)::[]) [some AV.B1,some (Aa (12))]) else (
Il (Vu 241 47 6 1 [Aa (0),Aa (0),Aa (0),Aa (0),Aa (0),Aa (0)] [(0,(AV.agg [Aa (IntKind.wrap .i64 (a+w)),Aa g,Aa h,Aa b,Aa c,Aa d]))]) ((221,some ⟨[Aa (IntKind.wrap .i64 (a+w)),Aa g,Aa h,Aa b,Aa c,Aa d],47⟩)::(221,some ⟨[Aa (IntKind.wrap .i64 (a+w)),Aa e,Aa f,Aa b,Aa c,Aa d],47⟩)::(221,some ⟨[Aa a,Aa e,Aa f,Aa b,Aa c,Aa d],47⟩)::(221,some ⟨[Aa (0),Aa (0),Aa (0),Aa (0),Aa (0),Aa (0)],47⟩)::(0,some ⟨[AV.sc (.string l),Aa m,Aa n,AV.sc (.string o),i,j,Aa a,Aa e,Aa f,Aa b,Aa c,Aa d,AV.sc (.string p),Aa q,Aa r,Aa s,Aa t,Aa u,Aa v,Aa g,Aa h,k],72⟩)::[]) fun aa ab=>
A2 R ab [some aa,some (Aa (0))])))
theorem wY (a:ByteArray) (b c:Int) (d:ByteArray) (e f:AV) (g i j k l m:Int) (n:ByteArray) (o p q r s t u v:Int) (w:AV) (R:AV→Mem→Prop) (h:F47 a b c d e f g i j k l m n o p q r s t u v w R):Own pg KK.gl 47 [AV.agg [AV.sc (.string a),Aa b,Aa c,AV.sc (.string d),e,f,Aa g,Aa i,Aa j,Aa k,Aa l,Aa m,AV.sc (.string n),Aa o,Aa p,Aa q,Aa r,Aa s,Aa t,Aa u,Aa v,w]] R:=Bk Ee Tryz.func47 (code:=c47) Bi Bi Bi (X:=F47 a b c d e f g i j k l m n o p q r s t u v w R) Bi h
noncomputable def c31:Code:=((Tryz.f31).body).getD .skip
noncomputable def q31 (R:AV→Mem→Prop):Bh→St→Prop:=C8 pg Tryz.f31 R
noncomputable def F31 (e:ByteArray) (a f:Int) (g:ByteArray) (c b:AV) (h i j k l m:Int) (n:ByteArray) (o p q r s t u v:Int) (d:AV) (R:AV→Mem→Prop):Prop:=
Jj (Cq c)<|Jj (Cq b)<|Jj (Cq d)<|bif (a==(0)) then (
Ez pg KK.gl ((0,some ⟨[AV.sc (.string e),Aa a,Aa f,AV.sc (.string g),c,b,Aa h,Aa i,Aa j,Aa k,Aa l,Aa m,AV.sc (.string n),Aa o,Aa p,Aa q,Aa r,Aa s,Aa t,Aa u,Aa v,d],72⟩)::[]) 10 44 [AV.agg [AV.sc (.string e),Aa a,Aa f,AV.sc (.string g),c,b,Aa h,Aa i,Aa j,Aa k,Aa l,Aa m,AV.sc (.string n),Aa o,Aa p,Aa q,Aa r,Aa s,Aa t,Aa u,Aa v,d]] fun w x=>
Fs w fun y z=>
Af z fun z3=>
A2 R x [some y,some (Ah false),some (Aa z3)]) else (
Bo (Ed b) fun v4=>
Af v4 fun z5=>
bif (z5==(0)) then (
A2 R ((0,some ⟨[AV.sc (.string e),Aa a,Aa f,AV.sc (.string g),c,b,Aa h,Aa i,Aa j,Aa k,Aa l,Aa m,AV.sc (.string n),Aa o,Aa p,Aa q,Aa r,Aa s,Aa t,Aa u,Aa v,d],72⟩)::[]) [some AV.B1,some (Ah true),some (Aa (0))]) else (
bif (a==(1)) then (
Ez pg KK.gl ((0,some ⟨[AV.sc (.string e),Aa a,Aa f,AV.sc (.string g),c,b,Aa h,Aa i,Aa j,Aa k,Aa l,Aa m,AV.sc (.string n),Aa o,Aa p,Aa q,Aa r,Aa s,Aa t,Aa u,Aa v,d],72⟩)::[]) 20 45 [AV.agg [AV.sc (.string e),Aa a,Aa f,AV.sc (.string g),c,b,Aa h,Aa i,Aa j,Aa k,Aa l,Aa m,AV.sc (.string n),Aa o,Aa p,Aa q,Aa r,Aa s,Aa t,Aa u,Aa v,d]] fun v6 m6=>
Fs v6 fun c7 c8=>
Af c8 fun z9=>
A2 R m6 [some c7,some (Ah false),some (Aa z9)]) else (
bif (a==(2)) then (
Ez pg KK.gl ((0,some ⟨[AV.sc (.string e),Aa a,Aa f,AV.sc (.string g),c,b,Aa h,Aa i,Aa j,Aa k,Aa l,Aa m,AV.sc (.string n),Aa o,Aa p,Aa q,Aa r,Aa s,Aa t,Aa u,Aa v,d],72⟩)::[]) 25 46 [AV.agg [AV.sc (.string e),Aa a,Aa f,AV.sc (.string g),c,b,Aa h,Aa i,Aa j,Aa k,Aa l,Aa m,AV.sc (.string n),Aa o,Aa p,Aa q,Aa r,Aa s,Aa t,Aa u,Aa v,d]] fun aa ab=>
Fs aa fun ad ae=>
Af ae fun af=>
A2 R ab [some ad,some (Ah false),some (Aa af)]) else (
bif (a==(3)) then (
Ez pg KK.gl ((0,some ⟨[AV.sc (.string e),Aa a,Aa f,AV.sc (.string g),c,b,Aa h,Aa i,Aa j,Aa k,Aa l,Aa m,AV.sc (.string n),Aa o,Aa p,Aa q,Aa r,Aa s,Aa t,Aa u,Aa v,d],72⟩)::[]) 30 47 [AV.agg [AV.sc (.string e),Aa a,Aa f,AV.sc (.string g),c,b,Aa h,Aa i,Aa j,Aa k,Aa l,Aa m,AV.sc (.string n),Aa o,Aa p,Aa q,Aa r,Aa s,Aa t,Aa u,Aa v,d]] fun ag ah=>
Fs ag fun ai aj=>
Af aj fun ak=>
A2 R ah [some ai,some (Ah false),some (Aa ak)]) else (
A2 R ((0,some ⟨[AV.sc (.string e),Aa a,Aa f,AV.sc (.string g),c,b,Aa h,Aa i,Aa j,Aa k,Aa l,Aa m,AV.sc (.string n),Aa o,Aa p,Aa q,Aa r,Aa s,Aa t,Aa u,Aa v,d],72⟩)::[]) [some AV.B1,some (Ah true),some (Aa (0))])))))
theorem tU (a:ByteArray) (b c:Int) (d:ByteArray) (e f:AV) (g i j k l m:Int) (n:ByteArray) (o p q r s t u v:Int) (w:AV) (R:AV→Mem→Prop) (h:F31 a b c d e f g i j k l m n o p q r s t u v w R):Own pg KK.gl 31 [AV.agg [AV.sc (.string a),Aa b,Aa c,AV.sc (.string d),e,f,Aa g,Aa i,Aa j,Aa k,Aa l,Aa m,AV.sc (.string n),Aa o,Aa p,Aa q,Aa r,Aa s,Aa t,Aa u,Aa v,w]] R:=Bk Ee Tryz.func31 (code:=c31) Bi Bi Bi (X:=F31 a b c d e f g i j k l m n o p q r s t u v w R) Bi h
end Go.Proofs.YtmhnnmfcjdnlhaaGreatDoor
