/- A part. -/
import Derived.Test.YtmechmjjcgdpdaaGreatDoorX1T
set_option linter.unusedVariables false
set_option maxRecDepth 100000
set_option maxHeartbeats 4000000
namespace Go.Proofs.YtmechmjjcgdpdaaGreatDoor
noncomputable def Nk:Code:=((Tryz.f43).body).getD .skip
noncomputable def q43 (R:AV→Mem→Prop):A4→St→Prop:=Cr pg Tryz.f43 R
noncomputable def oK:Code:=C0 Nk 0
noncomputable def kW (R:AV→Mem→Prop):A4→St→Prop:=Cy pg KK 41 0 Nk 0 (q43 R)
noncomputable def Ai9 (R:AV→Mem→Prop) (N0:St→Prop):A4→St→Prop:=Cz N0 (kW R)
def W8 (a:Bool) (b:AV) (c d:Int) (m:Mem):St:=⟨[(2,(Ae a)),(14,b),(15,(Aa c)),(16,(Aa d))],m,100000⟩
noncomputable def mO (f:Bool) (d:AV) (c b:Int) (m:Mem) (R:AV→Mem→Prop) (N0:St→Prop):Prop:=
bif (decide (b<c)) then (
Bg (Cw 1 d (Aa b)) fun e=>
Bg (Ff (Ao m) e) fun g=>
oS g fun a=>
bif (decide (a≥(65))) then (
bif (decide (a≤(90))) then (
N0 ⟨[(2,(Ae f)),(14,d),(15,(Aa c)),(16,(Aa (IntKind.wrap .i64 (b+(1))))),(17,(Ae (decide (b<c)))),(18,(Aa b)),(19,e),(20,(AV.sc (.int .u8 a))),(3,(Aa b)),(4,(AV.sc (.int .u8 a))),(21,(AV.sc (.int .u8 a))),(22,(Ae (decide (a≥(65))))),(23,(Ae true)),(24,(AV.sc (.int .u8 a))),(25,(Ae (decide (a≤(90))))),(26,(Ae (decide (a≤(90))))),(27,(Ae true)),(28,(AV.Bn [])),(29,(AV.Bn [])),(30,(AV.Bn [])),(31,(AV.Bn [])),(32,(AV.Bn [])),(33,(AV.Bn [])),(34,(AV.Bn [])),(35,(AV.Bn [])),(36,(AV.Bn [])),(37,(AV.Bn [])),(38,(Ae true)),(39,(Ae false)),(40,(Aa (IntKind.wrap .i64 (b+(1)))))],m,100017⟩) else (
bif (decide (b>(0))) then (
bif (decide (a≥(48))) then (
bif (!(decide (a≤(57)))) then (
A8 R m [some (Ae false)]) else (
N0 ⟨[(2,(Ae f)),(14,d),(15,(Aa c)),(16,(Aa (IntKind.wrap .i64 (b+(1))))),(17,(Ae (decide (b<c)))),(18,(Aa b)),(19,e),(20,(AV.sc (.int .u8 a))),(3,(Aa b)),(4,(AV.sc (.int .u8 a))),(21,(AV.sc (.int .u8 a))),(22,(Ae (decide (a≥(65))))),(23,(Ae true)),(24,(AV.sc (.int .u8 a))),(25,(Ae (decide (a≤(90))))),(26,(Ae (decide (a≤(90))))),(27,(Ae false)),(28,(Aa b)),(29,(Ae (decide (b>(0))))),(30,(Ae true)),(31,(AV.sc (.int .u8 a))),(32,(Ae (decide (a≥(48))))),(33,(Ae (decide (a≥(48))))),(34,(Ae true)),(35,(AV.sc (.int .u8 a))),(36,(Ae (decide (a≤(57))))),(37,(Ae (decide (a≤(57))))),(38,(Ae (decide (a≤(57))))),(39,(Ae (!(decide (a≤(57)))))),(40,(Aa (IntKind.wrap .i64 (b+(1)))))],m,100027⟩)) else (
A8 R m [some (Ae false)])) else (
A8 R m [some (Ae false)]))) else (
bif (decide (b>(0))) then (
bif (decide (a≥(48))) then (
bif (!(decide (a≤(57)))) then (
A8 R m [some (Ae false)]) else (
N0 ⟨[(2,(Ae f)),(14,d),(15,(Aa c)),(16,(Aa (IntKind.wrap .i64 (b+(1))))),(17,(Ae (decide (b<c)))),(18,(Aa b)),(19,e),(20,(AV.sc (.int .u8 a))),(3,(Aa b)),(4,(AV.sc (.int .u8 a))),(21,(AV.sc (.int .u8 a))),(22,(Ae (decide (a≥(65))))),(23,(Ae false)),(24,(AV.Bn [])),(25,(AV.Bn [])),(26,(Ae false)),(27,(Ae false)),(28,(Aa b)),(29,(Ae (decide (b>(0))))),(30,(Ae true)),(31,(AV.sc (.int .u8 a))),(32,(Ae (decide (a≥(48))))),(33,(Ae (decide (a≥(48))))),(34,(Ae true)),(35,(AV.sc (.int .u8 a))),(36,(Ae (decide (a≤(57))))),(37,(Ae (decide (a≤(57))))),(38,(Ae (decide (a≤(57))))),(39,(Ae (!(decide (a≤(57)))))),(40,(Aa (IntKind.wrap .i64 (b+(1)))))],m,100025⟩)) else (
A8 R m [some (Ae false)])) else (
A8 R m [some (Ae false)]))) else (
A8 R m [some (Ae true)])
theorem tY (a:Bool) (b:AV) (c d:Int) (m:Mem) (R:AV→Mem→Prop) (N0:St→Prop):W pg KK 41 0 oK (W8 a b c d m) (Ai9 R N0)=mO a b c d m R N0:=by kernel_rfl
theorem Ani (R:AV→Mem→Prop) {σ:Type} (I:σ→Prop) (a:σ→Bool) (b:σ→AV) (c d:σ→Int) (m:σ→Mem) (μ:σ→Nat) (step:∀x,I x→mO (a x) (b x) (c x) (d x) (m x) R (fun s'=>∃y,I y∧μ y<μ x∧Bb KK 41 0 s' (W8 (a y) (b y) (c y) (d y) (m y)))) (x:σ) (hx:I x) {s:St} (hw:Bb KK 41 0 s (W8 (a x) (b x) (c x) (d x) (m x))):Bu pg KK 41 0 (.loop oK) s (kW R):=
 Bu.Eh hw (Bu.loops Dl I (fun x=>W8 (a x) (b x) (c x) (d x) (m x)) μ (fun x hx=>(tY (a x) (b x) (c x) (d x) (m x) R _).mpr (step x hx)) x hx)
noncomputable def F43 (a:ByteArray) (R:AV→Mem→Prop):Prop:=
Bg (Cv pg (.call ⟨.builtin .len,#[.tmp 0],#[9]⟩) 3 [AV.sc (.string a)] (Ao []) 2) fun e=>
Af e fun c=>
bif (decide (c<(1))) then (
A8 R [] [some (Ae false)]) else (
Bg (Cv pg (.call ⟨.builtin .len,#[.tmp 0],#[9]⟩) 3 [AV.sc (.string a)] (Ao []) 6) fun f=>
Af f fun b=>
bif (decide (b>(8))) then (
A8 R [] [some (Ae false)]) else (
Bg (Cv pg (.convert 9 242 (.tmp 0)) 242 [AV.sc (.string a)] (Ao []) 10) fun d=>
Bg (Cn d) fun g=>
Af g fun h=>
Bu pg KK 41 0 (.loop oK) ⟨[(0,(AV.sc (.string a))),(2,(Ae false)),(5,(AV.sc (.string a))),(6,(Aa c)),(7,(Ae (decide (c<(1))))),(8,(Ae false)),(9,(AV.sc (.string a))),(10,(Aa b)),(11,(Ae (decide (b>(8))))),(12,(Ae (decide (b>(8))))),(13,(AV.sc (.string a))),(14,d),(15,(Aa h)),(16,(Aa (0)))],[],13⟩ (kW R)))
theorem Ady (a:ByteArray) (R:AV→Mem→Prop) (h:F43 a R):Own pg KK.gl 43 [AV.sc (.string a)] R:=Bc Dl Tryz.func43 (code:=Nk) Bf Bf Bf (X:=F43 a R) Bf h
noncomputable def Em:Code:=((Tryz.f11).body).getD .skip
noncomputable def q11 (R:AV→Mem→Prop):A4→St→Prop:=Cr pg Tryz.f11 R
noncomputable def l8:Code:=C0 Em 0
noncomputable def kP (R:AV→Mem→Prop):A4→St→Prop:=Cy pg KK 19 0 Em 0 (q11 R)
noncomputable def Ak4 (R:AV→Mem→Prop) (N0:St→Prop):A4→St→Prop:=Cz N0 (kP R)
def Yb (a:AV) (b:ByteArray) (c d e:Int) (m:Mem):St:=⟨[(0,a),(1,(AV.sc (.string b))),(4,(Aa c)),(7,(Aa d)),(8,(Aa e))],m,100000⟩
noncomputable def mB (c:AV) (b:ByteArray) (f d a:Int) (m:Mem) (R:AV→Mem→Prop) (N0:St→Prop):Prop:=
bif (decide (a<d)) then (
Bg (Cw 1 c (Aa a)) fun e=>
Bg (Ff (Ao m) e) fun g=>
Ei g fun s4=>
bif ((b).toList==(s4).toList) then (
A8 R m [some (Aa a)]) else (
N0 ⟨[(0,c),(1,(AV.sc (.string b))),(4,(Aa f)),(7,(Aa d)),(8,(Aa (IntKind.wrap .i64 (a+(1))))),(9,(Ae (decide (a<d)))),(10,(Aa a)),(5,(Aa a)),(11,(AV.sc (.string b))),(12,c),(13,(Aa a)),(14,e),(15,(AV.sc (.string s4))),(16,(Ae ((b).toList==(s4).toList))),(18,(Aa (IntKind.wrap .i64 (a+(1)))))],m,100011⟩)) else (
A8 R m [some (Aa (-1))])
theorem uG (a:AV) (b:ByteArray) (c d e:Int) (m:Mem) (R:AV→Mem→Prop) (N0:St→Prop):W pg KK 19 0 l8 (Yb a b c d e m) (Ak4 R N0)=mB a b c d e m R N0:=by kernel_rfl
theorem Als (R:AV→Mem→Prop) {σ:Type} (I:σ→Prop) (a:σ→AV) (b:σ→ByteArray) (c d e:σ→Int) (m:σ→Mem) (μ:σ→Nat) (step:∀x,I x→mB (a x) (b x) (c x) (d x) (e x) (m x) R (fun s'=>∃y,I y∧μ y<μ x∧Bb KK 19 0 s' (Yb (a y) (b y) (c y) (d y) (e y) (m y)))) (x:σ) (hx:I x) {s:St} (hw:Bb KK 19 0 s (Yb (a x) (b x) (c x) (d x) (e x) (m x))):Bu pg KK 19 0 (.loop l8) s (kP R):=
 Bu.Eh hw (Bu.loops Dl I (fun x=>Yb (a x) (b x) (c x) (d x) (e x) (m x)) μ (fun x hx=>(uG (a x) (b x) (c x) (d x) (e x) (m x) R _).mpr (step x hx)) x hx)
noncomputable def F11 (a:AV) (b:ByteArray) (R:AV→Mem→Prop):Prop:=
Bg (Cn a) fun c=>
Af c fun d=>
Bu pg KK 19 0 (.loop l8) ⟨[(0,a),(1,(AV.sc (.string b))),(4,(Aa (0))),(6,a),(7,(Aa d)),(8,(Aa (0)))],[],4⟩ (kP R)
theorem Abk (a:AV) (b:ByteArray) (R:AV→Mem→Prop) (h:F11 a b R):Own pg KK.gl 11 [a,AV.sc (.string b)] R:=Bc Dl Tryz.func11 (code:=Em) Bf Bf Bf (X:=F11 a b R) Bf h
noncomputable def Tj:Code:=((Tryz.f44).body).getD .skip
noncomputable def q44 (R:AV→Mem→Prop):A4→St→Prop:=Cr pg Tryz.f44 R
noncomputable def F44 (a:AV) (b:ByteArray) (R:AV→Mem→Prop):Prop:=
Bj pg KK.gl [] 11 [a,AV.sc (.string b)] fun c=>
Af c fun d=>
A8 R [] [some (Ae (decide (d≥(0))))]
theorem Aen (a:AV) (b:ByteArray) (R:AV→Mem→Prop) (h:F44 a b R):Own pg KK.gl 44 [a,AV.sc (.string b)] R:=Bc Dl Tryz.func44 (code:=Tj) Bf Bf Bf (X:=F44 a b R) Bf h
noncomputable def c46:Code:=((Tryz.f46).body).getD .skip
noncomputable def q46 (R:AV→Mem→Prop):A4→St→Prop:=Cr pg Tryz.f46 R
noncomputable def Xh:Code:=C0 c46 0
noncomputable def oE (R:AV→Mem→Prop):A4→St→Prop:=Cy pg KK 82 0 c46 0 (q46 R)
noncomputable def xP (R:AV→Mem→Prop) (N0:St→Prop):A4→St→Prop:=Cz N0 (oE R)
def S3 (a:AV) (b:Int) (c d:AV) (e f:Int) (m:Mem):St:=⟨[(0,a),(2,(Aa b)),(3,c),(11,d),(12,(Aa e)),(13,(Aa f))],m,100000⟩
noncomputable def Ps:Code:=C0 Xh 0
noncomputable def Qq (R:AV→Mem→Prop) (N0:St→Prop):A4→St→Prop:=Cy pg KK 82 0 Xh 0 (xP R N0)
noncomputable def uJ (R:AV→Mem→Prop) (N0 N1:St→Prop):A4→St→Prop:=Cz N1 (Qq R N0)
def M6 (a:AV) (b:Int) (c d:AV) (e f:Int) (g:AV) (h i:Int) (j:ByteArray) (k:AV) (m:Mem):St:=⟨[(0,a),(2,(Aa b)),(3,c),(5,(AV.ptr 100004 0)),(11,d),(12,(Aa e)),(13,(Aa f)),(43,g),(44,(Aa h)),(45,(Aa i))],((100004,some ⟨[AV.sc (.string j),k],37⟩)::m),200000⟩
noncomputable def lO (d:AV) (i:Int) (j g:AV) (c a:Int) (m:Mem) (R:AV→Mem→Prop) (N0:St→Prop):Prop:=
bif (decide (a<c)) then (
Bg (Cw 2 g (Aa a)) fun h=>
Bg (F2 (Ao m) 2 h) fun n=>
Da n fun o c7=>
Ei o fun s8=>
Hv (B7 c7)<|Bj pg KK.gl ((100004,some ⟨[AV.sc (.string s8),c7],37⟩)::(100004,some ⟨[AV.sc (.string ⟨#[]⟩),AV.Bp],37⟩)::m) 43 [AV.sc (.string s8)] fun p=>
Iv p fun b=>
bif (!b) then (
A8 R ((100004,some ⟨[AV.sc (.string s8),c7],37⟩)::(100004,some ⟨[AV.sc (.string ⟨#[]⟩),AV.Bp],37⟩)::m) [some (Aa (3))]) else (
bif (decide (a>(0))) then (
Bg (Cw 2 d (Aa (IntKind.wrap .i64 (a-(1))))) fun k=>
Bg (Iz 0 k) fun l=>
Bg (Ff (Ao ((100004,some ⟨[AV.sc (.string s8),c7],37⟩)::(100004,some ⟨[AV.sc (.string ⟨#[]⟩),AV.Bp],37⟩)::m)) l) fun q=>
Ei q fun s14=>
bif (Op.bytesLess (s8).toList (s14).toList||(s8).toList==(s14).toList) then (
A8 R ((100004,some ⟨[AV.sc (.string s8),c7],37⟩)::(100004,some ⟨[AV.sc (.string ⟨#[]⟩),AV.Bp],37⟩)::m) [some (Aa (7))]) else (
Bg (Cn c7) fun r=>
Af r fun e=>
bif (e==(0)) then (
A8 R ((100004,some ⟨[AV.sc (.string s8),c7],37⟩)::(100004,some ⟨[AV.sc (.string ⟨#[]⟩),AV.Bp],37⟩)::m) [some (Aa (8))]) else (
Bg (Cn c7) fun s=>
Af s fun t=>
Bu pg KK 82 0 (.loop Ps) ⟨[(0,d),(2,(Aa i)),(3,j),(11,g),(12,(Aa c)),(13,(Aa a)),(14,(Ae (decide (a<c)))),(15,(Aa a)),(16,h),(17,(AV.agg [AV.sc (.string s8),c7])),(5,(AV.ptr 100004 0)),(4,(Aa a)),(19,(AV.ptr 100004 0)),(20,(AV.sc (.string s8))),(21,(Ae b)),(22,(Ae (!b))),(18,(Ae (!b))),(24,(Aa a)),(25,(Ae (decide (a>(0))))),(26,(Ae true)),(27,(AV.ptr 100004 0)),(28,(AV.sc (.string s8))),(29,d),(30,(Aa a)),(31,(Aa (IntKind.wrap .i64 (a-(1))))),(32,k),(33,l),(34,(AV.sc (.string s14))),(35,(Ae (Op.bytesLess (s8).toList (s14).toList||(s8).toList==(s14).toList))),(36,(Ae (Op.bytesLess (s8).toList (s14).toList||(s8).toList==(s14).toList))),(23,(Ae (Op.bytesLess (s8).toList (s14).toList||(s8).toList==(s14).toList))),(38,(AV.ptr 100004 1)),(39,c7),(40,(Aa e)),(41,(Ae (e==(0)))),(37,(Ae (e==(0)))),(42,(AV.ptr 100004 1)),(43,c7),(44,(Aa t)),(45,(Aa (0)))],((100004,some ⟨[AV.sc (.string s8),c7],37⟩)::(100004,some ⟨[AV.sc (.string ⟨#[]⟩),AV.Bp],37⟩)::m),100098⟩ (Qq R N0)))) else (
Bg (Cn c7) fun u=>
Af u fun f=>
bif (f==(0)) then (
A8 R ((100004,some ⟨[AV.sc (.string s8),c7],37⟩)::(100004,some ⟨[AV.sc (.string ⟨#[]⟩),AV.Bp],37⟩)::m) [some (Aa (8))]) else (
Bg (Cn c7) fun v=>
Af v fun w=>
Bu pg KK 82 0 (.loop Ps) ⟨[(0,d),(2,(Aa i)),(3,j),(11,g),(12,(Aa c)),(13,(Aa a)),(14,(Ae (decide (a<c)))),(15,(Aa a)),(16,h),(17,(AV.agg [AV.sc (.string s8),c7])),(5,(AV.ptr 100004 0)),(4,(Aa a)),(19,(AV.ptr 100004 0)),(20,(AV.sc (.string s8))),(21,(Ae b)),(22,(Ae (!b))),(18,(Ae (!b))),(24,(Aa a)),(25,(Ae (decide (a>(0))))),(26,(Ae false)),(27,(AV.Bn [])),(28,(AV.Bn [])),(29,(AV.Bn [])),(30,(AV.Bn [])),(31,(AV.Bn [])),(32,(AV.Bn [])),(33,(AV.Bn [])),(34,(AV.Bn [])),(35,(AV.Bn [])),(36,(Ae false)),(23,(Ae false)),(38,(AV.ptr 100004 1)),(39,c7),(40,(Aa f)),(41,(Ae (f==(0)))),(37,(Ae (f==(0)))),(42,(AV.ptr 100004 1)),(43,c7),(44,(Aa w)),(45,(Aa (0)))],((100004,some ⟨[AV.sc (.string s8),c7],37⟩)::(100004,some ⟨[AV.sc (.string ⟨#[]⟩),AV.Bp],37⟩)::m),100098⟩ (Qq R N0))))) else (
A8 R m [some (Aa (0))])
theorem vM (a:AV) (b:Int) (c d:AV) (e f:Int) (m:Mem) (R:AV→Mem→Prop) (N0:St→Prop):W pg KK 82 0 Xh (S3 a b c d e f m) (xP R N0)=lO a b c d e f m R N0:=by kernel_rfl
theorem Aln (R:AV→Mem→Prop) {σ:Type} (I:σ→Prop) (a:σ→AV) (b:σ→Int) (c d:σ→AV) (e f:σ→Int) (m:σ→Mem) (μ:σ→Nat) (step:∀x,I x→lO (a x) (b x) (c x) (d x) (e x) (f x) (m x) R (fun s'=>∃y,I y∧μ y<μ x∧Bb KK 82 0 s' (S3 (a y) (b y) (c y) (d y) (e y) (f y) (m y)))) (x:σ) (hx:I x) {s:St} (hw:Bb KK 82 0 s (S3 (a x) (b x) (c x) (d x) (e x) (f x) (m x))):Bu pg KK 82 0 (.loop Xh) s (oE R):=
 Bu.Eh hw (Bu.loops Dl I (fun x=>S3 (a x) (b x) (c x) (d x) (e x) (f x) (m x)) μ (fun x hx=>(vM (a x) (b x) (c x) (d x) (e x) (f x) (m x) R _).mpr (step x hx)) x hx)
noncomputable def Tq (k:AV) (l:Int) (c n:AV) (o g:Int) (h:AV) (e a:Int) (d:ByteArray) (b:AV) (m:Mem) (R:AV→Mem→Prop) (N0 N1:St→Prop):Prop:=
bif (decide (a<e)) then (
Bg (Cw 1 h (Aa a)) fun p=>
Bg (Ff (Ao ((100004,some ⟨[AV.sc (.string d),b],37⟩)::m)) p) fun y=>
Ei y fun s21=>
Bj pg KK.gl ((100004,some ⟨[AV.sc (.string d),b],37⟩)::m) 43 [AV.sc (.string s21)] fun z=>
Iv z fun f=>
bif (!f) then (
A8 R ((100004,some ⟨[AV.sc (.string d),b],37⟩)::m) [some (Aa (3))]) else (
Bj pg KK.gl ((100004,some ⟨[AV.sc (.string d),b],37⟩)::m) 44 [c,AV.sc (.string s21)] fun aa=>
Iv aa fun q=>
bif q then (
A8 R ((100004,some ⟨[AV.sc (.string d),b],37⟩)::m) [some (Aa (7))]) else (
bif (decide (a>(0))) then (
Bg (Cw 1 b (Aa (IntKind.wrap .i64 (a-(1))))) fun r=>
Bg (Ff (Ao ((100004,some ⟨[AV.sc (.string d),b],37⟩)::m)) r) fun ab=>
Ei ab fun s28=>
bif (Op.bytesLess (s21).toList (s28).toList) then (
A8 R ((100004,some ⟨[AV.sc (.string d),b],37⟩)::m) [some (Aa (7))]) else (
Bg (Cn c) fun ad=>
Af ad fun i=>
bif (i==(12)) then (
A8 R ((100004,some ⟨[AV.sc (.string d),b],37⟩)::m) [some (Aa (2))]) else (
Ia (kT 200160 9 1 1 [AV.sc (.string ⟨#[]⟩)] [(0,(AV.sc (.string s21)))]) ((100004,some ⟨[AV.sc (.string d),b],37⟩)::m) fun s t=>
Ia (app (Ao t) 9 1 16 [AV.sc (.string ⟨#[]⟩)] 200161 c s) t fun u ae=>
N1 ⟨[(0,k),(2,(Aa l)),(3,u),(5,(AV.ptr 100004 0)),(11,n),(12,(Aa o)),(13,(Aa g)),(43,h),(44,(Aa e)),(45,(Aa (IntKind.wrap .i64 (a+(1))))),(46,(Ae (decide (a<e)))),(47,(Aa a)),(48,p),(49,(AV.sc (.string s21))),(6,(Aa a)),(7,(AV.sc (.string s21))),(51,(AV.sc (.string s21))),(52,(Ae f)),(53,(Ae (!f))),(50,(Ae (!f))),(55,c),(56,(AV.sc (.string s21))),(57,(Ae q)),(58,(Ae false)),(59,(Aa a)),(60,(Ae (decide (a>(0))))),(61,(Ae true)),(62,(AV.sc (.string s21))),(63,(AV.ptr 100004 1)),(64,b),(65,(Aa a)),(66,(Aa (IntKind.wrap .i64 (a-(1))))),(67,r),(68,(AV.sc (.string s28))),(69,(Ae (Op.bytesLess (s21).toList (s28).toList))),(70,(Ae (Op.bytesLess (s21).toList (s28).toList))),(71,(Ae (Op.bytesLess (s21).toList (s28).toList))),(54,(Ae (Op.bytesLess (s21).toList (s28).toList))),(73,c),(74,(Aa i)),(75,(Ae (i==(12)))),(72,(Ae (i==(12)))),(76,c),(77,(AV.sc (.string s21))),(78,s),(79,u),(80,(Aa (IntKind.wrap .i64 (a+(1)))))],ae,200165⟩))) else (
Bg (Cn c) fun af=>
Af af fun j=>
bif (j==(12)) then (
A8 R ((100004,some ⟨[AV.sc (.string d),b],37⟩)::m) [some (Aa (2))]) else (
Ia (kT 200152 9 1 1 [AV.sc (.string ⟨#[]⟩)] [(0,(AV.sc (.string s21)))]) ((100004,some ⟨[AV.sc (.string d),b],37⟩)::m) fun v w=>
Ia (app (Ao w) 9 1 16 [AV.sc (.string ⟨#[]⟩)] 200153 c v) w fun x ag=>
N1 ⟨[(0,k),(2,(Aa l)),(3,x),(5,(AV.ptr 100004 0)),(11,n),(12,(Aa o)),(13,(Aa g)),(43,h),(44,(Aa e)),(45,(Aa (IntKind.wrap .i64 (a+(1))))),(46,(Ae (decide (a<e)))),(47,(Aa a)),(48,p),(49,(AV.sc (.string s21))),(6,(Aa a)),(7,(AV.sc (.string s21))),(51,(AV.sc (.string s21))),(52,(Ae f)),(53,(Ae (!f))),(50,(Ae (!f))),(55,c),(56,(AV.sc (.string s21))),(57,(Ae q)),(58,(Ae false)),(59,(Aa a)),(60,(Ae (decide (a>(0))))),(61,(Ae false)),(62,(AV.Bn [])),(63,(AV.Bn [])),(64,(AV.Bn [])),(65,(AV.Bn [])),(66,(AV.Bn [])),(67,(AV.Bn [])),(68,(AV.Bn [])),(69,(AV.Bn [])),(70,(Ae false)),(71,(Ae false)),(54,(Ae false)),(73,c),(74,(Aa j)),(75,(Ae (j==(12)))),(72,(Ae (j==(12)))),(76,c),(77,(AV.sc (.string s21))),(78,v),(79,x),(80,(Aa (IntKind.wrap .i64 (a+(1)))))],ag,200157⟩))))) else (
N0 ⟨[(0,k),(2,(Aa l)),(3,c),(5,(AV.ptr 100004 0)),(11,n),(12,(Aa o)),(13,(Aa (IntKind.wrap .i64 (g+(1))))),(43,h),(44,(Aa e)),(45,(Aa a)),(46,(Ae (decide (a<e)))),(81,(Aa (IntKind.wrap .i64 (g+(1)))))],((100004,some ⟨[AV.sc (.string d),b],37⟩)::m),200003⟩)
theorem gR (a:AV) (b:Int) (c d:AV) (e f:Int) (g:AV) (h i:Int) (j:ByteArray) (k:AV) (m:Mem) (R:AV→Mem→Prop) (N0 N1:St→Prop):W pg KK 82 0 Ps (M6 a b c d e f g h i j k m) (uJ R N0 N1)=Tq a b c d e f g h i j k m R N0 N1:=by kernel_rfl
theorem Ado (R:AV→Mem→Prop) (N0:St→Prop) {σ:Type} (I:σ→Prop) (a:σ→AV) (b:σ→Int) (c d:σ→AV) (e f:σ→Int) (g:σ→AV) (h i:σ→Int) (j:σ→ByteArray) (k:σ→AV) (m:σ→Mem) (μ:σ→Nat) (step:∀x,I x→Tq (a x) (b x) (c x) (d x) (e x) (f x) (g x) (h x) (i x) (j x) (k x) (m x) R N0 (fun s'=>∃y,I y∧μ y<μ x∧Bb KK 82 0 s' (M6 (a y) (b y) (c y) (d y) (e y) (f y) (g y) (h y) (i y) (j y) (k y) (m y)))) (x:σ) (hx:I x) {s:St} (hw:Bb KK 82 0 s (M6 (a x) (b x) (c x) (d x) (e x) (f x) (g x) (h x) (i x) (j x) (k x) (m x))):Bu pg KK 82 0 (.loop Ps) s (Qq R N0):=
 Bu.Eh hw (Bu.loops Dl I (fun x=>M6 (a x) (b x) (c x) (d x) (e x) (f x) (g x) (h x) (i x) (j x) (k x) (m x)) μ (fun x hx=>(gR (a x) (b x) (c x) (d x) (e x) (f x) (g x) (h x) (i x) (j x) (k x) (m x) R N0 _).mpr (step x hx)) x hx)
noncomputable def F46 (a:AV) (R:AV→Mem→Prop):Prop:=
Bg (Cn a) fun c=>
Af c fun b=>
bif (decide (b>(12))) then (
A8 R [] [some (Aa (2))]) else (
Bg (Cn a) fun d=>
Af d fun e=>
Bu pg KK 82 0 (.loop Xh) ⟨[(0,a),(2,(Aa (0))),(8,a),(9,(Aa b)),(10,(Ae (decide (b>(12))))),(3,AV.Bp),(11,a),(12,(Aa e)),(13,(Aa (0)))],[],8⟩ (oE R))
theorem Aeb (a:AV) (R:AV→Mem→Prop) (h:F46 a R):Own pg KK.gl 46 [a] R:=Bc Dl Tryz.func46 (code:=c46) Bf Bf Bf (X:=F46 a R) Bf h
noncomputable def Ao9:Code:=((Tryz.f125).body).getD .skip
noncomputable def Arf (R:AV→Mem→Prop):A4→St→Prop:=Cr pg Tryz.f125 R
noncomputable def Acv (a:ByteArray) (b c:AV) (R:AV→Mem→Prop):Prop:=
Hv (B7 b)<|Bg (Ff (Ao ((0,some ⟨[AV.sc (.string a),b],37⟩)::[])) c) fun d=>
Ei d fun s1=>
A8 R ((0,some ⟨[AV.sc (.string a),b],37⟩)::[]) [some (Ae ((a).toList==(s1).toList))]
theorem zD (a:ByteArray) (b c:AV) (R:AV→Mem→Prop) (h:Acv a b c R):Own pg KK.gl 125 [AV.agg [AV.sc (.string a),b],c] R:=Bc Dl Tryz.func125 (code:=Ao9) Bf Bf Bf (X:=Acv a b c R) Bf h
noncomputable def vY:Code:=((Tryz.f124).body).getD .skip
noncomputable def Apx (R:AV→Mem→Prop):A4→St→Prop:=Cr pg Tryz.f124 R
noncomputable def Uu:Code:=C0 vY 0
noncomputable def Ul (R:AV→Mem→Prop):A4→St→Prop:=Cy pg KK 19 0 vY 0 (Apx R)
noncomputable def Ab0 (R:AV→Mem→Prop) (N0:St→Prop):A4→St→Prop:=Cz N0 (Ul R)
def Lx (a b:AV) (c d e:Int) (m:Mem):St:=⟨[(0,a),(1,b),(4,(Aa c)),(7,(Aa d)),(8,(Aa e))],m,100000⟩
noncomputable def Rr (b c:AV) (h d a:Int) (m:Mem) (R:AV→Mem→Prop) (N0:St→Prop):Prop:=
bif (decide (a<d)) then (
Bg (Cw 2 b (Aa a)) fun f=>
Bg (F2 (Ao m) 2 f) fun k=>
Da k fun l c5=>
Ei l fun s6=>
I0 (some c) (some [AV.agg [AV.sc (.string s6),c5]]) fun f7 i=>bif KK.pm f7 then Bj pg KK.gl m f7 i (fun g=>
Iv g fun e=>
bif e then (
A8 R m [some (Aa a)]) else (
N0 ⟨[(0,b),(1,c),(4,(Aa h)),(7,(Aa d)),(8,(Aa (IntKind.wrap .i64 (a+(1))))),(9,(Ae (decide (a<d)))),(10,(Aa a)),(5,(Aa a)),(11,c),(12,b),(13,(Aa a)),(14,f),(15,(AV.agg [AV.sc (.string s6),c5])),(16,(Ae e)),(18,(Aa (IntKind.wrap .i64 (a+(1)))))],m,100074⟩)) else Ep pg KK.gl m 100008 f7 i fun g j=>
Iv g fun e=>
bif e then (
A8 R j [some (Aa a)]) else (
N0 ⟨[(0,b),(1,c),(4,(Aa h)),(7,(Aa d)),(8,(Aa (IntKind.wrap .i64 (a+(1))))),(9,(Ae (decide (a<d)))),(10,(Aa a)),(5,(Aa a)),(11,c),(12,b),(13,(Aa a)),(14,f),(15,(AV.agg [AV.sc (.string s6),c5])),(16,(Ae e)),(18,(Aa (IntKind.wrap .i64 (a+(1)))))],j,100074⟩)) else (
A8 R m [some (Aa (-1))])
theorem qM (a b:AV) (c d e:Int) (m:Mem) (R:AV→Mem→Prop) (N0:St→Prop):W pg KK 19 0 Uu (Lx a b c d e m) (Ab0 R N0)=Rr a b c d e m R N0:=by kernel_rfl
theorem zH (R:AV→Mem→Prop) {σ:Type} (I:σ→Prop) (a b:σ→AV) (c d e:σ→Int) (m:σ→Mem) (μ:σ→Nat) (step:∀x,I x→Rr (a x) (b x) (c x) (d x) (e x) (m x) R (fun s'=>∃y,I y∧μ y<μ x∧Bb KK 19 0 s' (Lx (a y) (b y) (c y) (d y) (e y) (m y)))) (x:σ) (hx:I x) {s:St} (hw:Bb KK 19 0 s (Lx (a x) (b x) (c x) (d x) (e x) (m x))):Bu pg KK 19 0 (.loop Uu) s (Ul R):=
 Bu.Eh hw (Bu.loops Dl I (fun x=>Lx (a x) (b x) (c x) (d x) (e x) (m x)) μ (fun x hx=>(qM (a x) (b x) (c x) (d x) (e x) (m x) R _).mpr (step x hx)) x hx)
noncomputable def tT (a b:AV) (R:AV→Mem→Prop):Prop:=
Bg (Cn a) fun c=>
Af c fun d=>
Bu pg KK 19 0 (.loop Uu) ⟨[(0,a),(1,b),(4,(Aa (0))),(6,a),(7,(Aa d)),(8,(Aa (0)))],[],4⟩ (Ul R)
theorem gC (a b:AV) (R:AV→Mem→Prop) (h:tT a b R):Own pg KK.gl 124 [a,b] R:=Bc Dl Tryz.func124 (code:=vY) Bf Bf Bf (X:=tT a b R) Bf h
noncomputable def c47:Code:=((Tryz.f47).body).getD .skip
noncomputable def q47 (R:AV→Mem→Prop):A4→St→Prop:=Cr pg Tryz.f47 R
noncomputable def F47 (b:AV) (a:ByteArray) (R:AV→Mem→Prop):Prop:=
Bj pg KK.gl ((0,some ⟨[AV.sc (.string a)],9⟩)::[]) 124 [b,AV.fn 125 [AV.ptr 0 0]] fun c=>
Af c fun d=>
A8 R ((0,some ⟨[AV.sc (.string a)],9⟩)::[]) [some (Aa d)]
theorem Aez (a:AV) (b:ByteArray) (R:AV→Mem→Prop) (h:F47 a b R):Own pg KK.gl 47 [a,AV.sc (.string b)] R:=Bc Dl Tryz.func47 (code:=c47) Bf Bf Bf (X:=F47 a b R) Bf h
noncomputable def Ll:Code:=((Tryz.f13).body).getD .skip
noncomputable def q13 (R:AV→Mem→Prop):A4→St→Prop:=Cr pg Tryz.f13 R
noncomputable def n4:Code:=C0 Ll 0
noncomputable def oF (R:AV→Mem→Prop):A4→St→Prop:=Cy pg KK 27 0 Ll 0 (q13 R)
noncomputable def Aj3 (R:AV→Mem→Prop) (N0:St→Prop):A4→St→Prop:=Cz N0 (oF R)
def Wx (a:AV) (b:Int) (c d:AV) (e f:Int) (m:Mem):St:=⟨[(2,a),(3,(Aa b)),(5,c),(13,d),(14,(Aa e)),(15,(Aa f))],m,100000⟩
noncomputable def oJ (g:AV) (h:Int) (b d:AV) (c a:Int) (m:Mem) (R:AV→Mem→Prop) (N0:St→Prop):Prop:=
bif (decide (a<c)) then (
Bg (Cw 2 d (Aa a)) fun e=>
Bg (F2 (Ao m) 2 e) fun i=>
Da i fun j c7=>
Ei j fun s8=>
Hv (B7 c7)<|Ia (app (Ao ((100003,some ⟨[AV.sc (.string s8),c7],37⟩)::(100003,some ⟨[AV.sc (.string ⟨#[]⟩),AV.Bp],37⟩)::m)) 9 1 16 [AV.sc (.string ⟨#[]⟩)] 100008 b c7) ((100003,some ⟨[AV.sc (.string s8),c7],37⟩)::(100003,some ⟨[AV.sc (.string ⟨#[]⟩),AV.Bp],37⟩)::m) fun f k=>
N0 ⟨[(2,g),(3,(Aa h)),(5,f),(13,d),(14,(Aa c)),(15,(Aa (IntKind.wrap .i64 (a+(1))))),(16,(Ae (decide (a<c)))),(17,e),(18,(AV.agg [AV.sc (.string s8),c7])),(7,(AV.ptr 100003 0)),(19,b),(20,(AV.ptr 100003 1)),(21,c7),(22,f),(23,(Aa (IntKind.wrap .i64 (a+(1)))))],k,100012⟩) else (
Ep pg KK.gl m 100002 14 [b] fun l n=>
T7 l<|
A8 R n [some b,some (Aa (0))])
theorem y5 (a:AV) (b:Int) (c d:AV) (e f:Int) (m:Mem) (R:AV→Mem→Prop) (N0:St→Prop):W pg KK 27 0 n4 (Wx a b c d e f m) (Aj3 R N0)=oJ a b c d e f m R N0:=by kernel_rfl
theorem Anm (R:AV→Mem→Prop) {σ:Type} (I:σ→Prop) (a:σ→AV) (b:σ→Int) (c d:σ→AV) (e f:σ→Int) (m:σ→Mem) (μ:σ→Nat) (step:∀x,I x→oJ (a x) (b x) (c x) (d x) (e x) (f x) (m x) R (fun s'=>∃y,I y∧μ y<μ x∧Bb KK 27 0 s' (Wx (a y) (b y) (c y) (d y) (e y) (f y) (m y)))) (x:σ) (hx:I x) {s:St} (hw:Bb KK 27 0 s (Wx (a x) (b x) (c x) (d x) (e x) (f x) (m x))):Bu pg KK 27 0 (.loop n4) s (oF R):=
 Bu.Eh hw (Bu.loops Dl I (fun x=>Wx (a x) (b x) (c x) (d x) (e x) (f x) (m x)) μ (fun x hx=>(y5 (a x) (b x) (c x) (d x) (e x) (f x) (m x) R _).mpr (step x hx)) x hx)
noncomputable def F13 (b:AV) (R:AV→Mem→Prop):Prop:=
Bj pg KK.gl [] 46 [b] fun c=>
Af c fun a=>
bif (a !=(0)) then (
A8 R [] [some AV.Bp,some (Aa a)]) else (
Bg (Cn b) fun d=>
Af d fun e=>
Bu pg KK 27 0 (.loop n4) ⟨[(0,b),(2,AV.Bp),(3,(Aa (0))),(8,b),(9,(Aa a)),(4,(Aa a)),(10,(Aa a)),(11,(Ae (a !=(0)))),(5,AV.Bp),(13,b),(14,(Aa e)),(15,(Aa (0)))],[],74⟩ (oF R))
theorem Abc (a:AV) (R:AV→Mem→Prop) (h:F13 a R):Own pg KK.gl 13 [a] R:=Bc Dl Tryz.func13 (code:=Ll) Bf Bf Bf (X:=F13 a R) Bf h
noncomputable def Aon:Code:=((Tryz.f188).body).getD .skip
noncomputable def Asd (R:AV→Mem→Prop):A4→St→Prop:=Cr pg Tryz.f188 R
noncomputable def Acg (a b:Int) (R:AV→Mem→Prop):Prop:=
bif (decide (a<(0))) then (
A8 R ((0,some ⟨[Aa a,Aa b],92⟩)::[]) [some (Aa (4))]) else (
bif (decide (a>(1000000))) then (
A8 R ((0,some ⟨[Aa a,Aa b],92⟩)::[]) [some (Aa (4))]) else (
bif (decide (b<(0))) then (
A8 R ((0,some ⟨[Aa a,Aa b],92⟩)::[]) [some (Aa (4))]) else (
bif (decide (b>(60000))) then (
A8 R ((0,some ⟨[Aa a,Aa b],92⟩)::[]) [some (Aa (4))]) else (
A8 R ((0,some ⟨[Aa a,Aa b],92⟩)::[]) [some (Aa (0))]))))
theorem xZ (a b:Int) (R:AV→Mem→Prop) (h:Acg a b R):Own pg KK.gl 188 [AV.agg [Aa a,Aa b]] R:=Bc Dl Tryz.func188 (code:=Aon) Bf Bf Bf (X:=Acg a b R) Bf h
noncomputable def c79:Code:=((Tryz.f79).body).getD .skip
noncomputable def q79 (R:AV→Mem→Prop):A4→St→Prop:=Cr pg Tryz.f79 R
noncomputable def F79 (a b:Int) (R:AV→Mem→Prop):Prop:=
bif (decide (a<(-1000000))) then (
A8 R ((0,some ⟨[Aa a,Aa b],51⟩)::[]) [some (Aa (4))]) else (
bif (decide (a>(1000000))) then (
A8 R ((0,some ⟨[Aa a,Aa b],51⟩)::[]) [some (Aa (4))]) else (
bif (decide (b<(-1000000))) then (
A8 R ((0,some ⟨[Aa a,Aa b],51⟩)::[]) [some (Aa (4))]) else (
bif (decide (b>(1000000))) then (
A8 R ((0,some ⟨[Aa a,Aa b],51⟩)::[]) [some (Aa (4))]) else (
A8 R ((0,some ⟨[Aa a,Aa b],51⟩)::[]) [some (Aa (0))]))))
theorem Aeq (a b:Int) (R:AV→Mem→Prop) (h:F79 a b R):Own pg KK.gl 79 [AV.agg [Aa a,Aa b]] R:=Bc Dl Tryz.func79 (code:=c79) Bf Bf Bf (X:=F79 a b R) Bf h
noncomputable def c57:Code:=((Tryz.f57).body).getD .skip
noncomputable def q57 (R:AV→Mem→Prop):A4→St→Prop:=Cr pg Tryz.f57 R
noncomputable def mR:Code:=C0 c57 0
noncomputable def mG (R:AV→Mem→Prop):A4→St→Prop:=Cy pg KK 86 0 c57 0 (q57 R)
noncomputable def Aih (R:AV→Mem→Prop) (N0:St→Prop):A4→St→Prop:=Cz N0 (mG R)
def Xo (a:AV) (b:Int) (c:AV) (d e:Int) (m:Mem):St:=⟨[(0,a),(2,(Aa b)),(14,c),(15,(Aa d)),(16,(Aa e))],m,100000⟩
noncomputable def lE (l:AV) (p:Int) (n:AV) (j g:Int) (m:Mem) (R:AV→Mem→Prop) (N0:St→Prop):Prop:=
bif (decide (g<j)) then (
Bg (Cw 6 n (Aa g)) fun o=>
Bg (F2 (Ao m) 6 o) fun t=>
Th t fun u v Jt Em Hu Ll=>
Af u fun a=>
Af v fun e=>
Af Jt fun f=>
Af Em fun d=>
Af Hu fun b=>
Af Ll fun c=>
bif (decide (a<(0))) then (
A8 R ((100004,some ⟨[Aa a,Aa e,Aa f,Aa d,Aa b,Aa c],55⟩)::(100004,some ⟨[Aa (0),Aa (0),Aa (0),Aa (0),Aa (0),Aa (0)],55⟩)::m) [some (Aa (12))]) else (
bif (decide (a>(200000))) then (
A8 R ((100004,some ⟨[Aa a,Aa e,Aa f,Aa d,Aa b,Aa c],55⟩)::(100004,some ⟨[Aa (0),Aa (0),Aa (0),Aa (0),Aa (0),Aa (0)],55⟩)::m) [some (Aa (12))]) else (
bif (decide (g>(0))) then (
Bg (Cw 6 l (Aa (IntKind.wrap .i64 (g-(1))))) fun q=>
Bg (Iz 0 q) fun r=>
Bg (Iz 0 r) fun s=>
Bg (Ff (Ao ((100004,some ⟨[Aa a,Aa e,Aa f,Aa d,Aa b,Aa c],55⟩)::(100004,some ⟨[Aa (0),Aa (0),Aa (0),Aa (0),Aa (0),Aa (0)],55⟩)::m)) s) fun w=>
Af w fun k=>
bif (decide (a≤k)) then (
A8 R ((100004,some ⟨[Aa a,Aa e,Aa f,Aa d,Aa b,Aa c],55⟩)::(100004,some ⟨[Aa (0),Aa (0),Aa (0),Aa (0),Aa (0),Aa (0)],55⟩)::m) [some (Aa (12))]) else (
Bj pg KK.gl ((100004,some ⟨[Aa a,Aa e,Aa f,Aa d,Aa b,Aa c],55⟩)::(100004,some ⟨[Aa (0),Aa (0),Aa (0),Aa (0),Aa (0),Aa (0)],55⟩)::m) 79 [AV.agg [Aa e,Aa f]] fun x=>
Af x fun h=>
bif (h !=(0)) then (
A8 R ((100004,some ⟨[Aa a,Aa e,Aa f,Aa d,Aa b,Aa c],55⟩)::(100004,some ⟨[Aa (0),Aa (0),Aa (0),Aa (0),Aa (0),Aa (0)],55⟩)::m) [some (Aa h)]) else (
bif (decide (d<(0))) then (
A8 R ((100004,some ⟨[Aa a,Aa e,Aa f,Aa d,Aa b,Aa c],55⟩)::(100004,some ⟨[Aa (0),Aa (0),Aa (0),Aa (0),Aa (0),Aa (0)],55⟩)::m) [some (Aa (4))]) else (
bif (decide (d>(60000))) then (
A8 R ((100004,some ⟨[Aa a,Aa e,Aa f,Aa d,Aa b,Aa c],55⟩)::(100004,some ⟨[Aa (0),Aa (0),Aa (0),Aa (0),Aa (0),Aa (0)],55⟩)::m) [some (Aa (4))]) else (
bif (decide (b<(0))) then (
A8 R ((100004,some ⟨[Aa a,Aa e,Aa f,Aa d,Aa b,Aa c],55⟩)::(100004,some ⟨[Aa (0),Aa (0),Aa (0),Aa (0),Aa (0),Aa (0)],55⟩)::m) [some (Aa (4))]) else (
bif (decide (b>(1000000))) then (
A8 R ((100004,some ⟨[Aa a,Aa e,Aa f,Aa d,Aa b,Aa c],55⟩)::(100004,some ⟨[Aa (0),Aa (0),Aa (0),Aa (0),Aa (0),Aa (0)],55⟩)::m) [some (Aa (4))]) else (
bif (decide (c<(0))) then (
A8 R ((100004,some ⟨[Aa a,Aa e,Aa f,Aa d,Aa b,Aa c],55⟩)::(100004,some ⟨[Aa (0),Aa (0),Aa (0),Aa (0),Aa (0),Aa (0)],55⟩)::m) [some (Aa (4))]) else (
bif (decide (c>(60000))) then (
A8 R ((100004,some ⟨[Aa a,Aa e,Aa f,Aa d,Aa b,Aa c],55⟩)::(100004,some ⟨[Aa (0),Aa (0),Aa (0),Aa (0),Aa (0),Aa (0)],55⟩)::m) [some (Aa (4))]) else (
N0 ⟨[(0,l),(2,(Aa p)),(14,n),(15,(Aa j)),(16,(Aa (IntKind.wrap .i64 (g+(1))))),(17,(Ae (decide (g<j)))),(18,(Aa g)),(19,o),(20,(AV.agg [Aa a,Aa e,Aa f,Aa d,Aa b,Aa c])),(4,(AV.ptr 100004 0)),(3,(Aa g)),(21,(AV.ptr 100004 0)),(22,(AV.ptr 100004 0)),(23,(Aa a)),(24,(Ae (decide (a<(0))))),(25,(Ae false)),(26,(AV.ptr 100004 0)),(27,(AV.ptr 100004 0)),(28,(Aa a)),(29,(Ae (decide (a>(200000))))),(30,(Ae (decide (a>(200000))))),(31,(Ae false)),(32,(Aa g)),(33,(Ae (decide (g>(0))))),(34,(Ae true)),(35,(AV.ptr 100004 0)),(36,(AV.ptr 100004 0)),(37,(Aa a)),(38,l),(39,(Aa g)),(40,(Aa (IntKind.wrap .i64 (g-(1))))),(41,q),(42,r),(43,s),(44,(Aa k)),(45,(Ae (decide (a≤k)))),(46,(Ae (decide (a≤k)))),(47,(Ae (decide (a≤k)))),(48,(AV.ptr 100004 0)),(49,(AV.ptr 100004 1)),(50,(AV.agg [Aa e,Aa f])),(51,(Aa h)),(5,(Aa h)),(52,(Aa h)),(53,(Ae (h !=(0)))),(55,(AV.ptr 100004 0)),(56,(AV.ptr 100004 3)),(57,(Aa d)),(58,(Ae (decide (d<(0))))),(59,(Ae false)),(60,(AV.ptr 100004 0)),(61,(AV.ptr 100004 3)),(62,(Aa d)),(63,(Ae (decide (d>(60000))))),(64,(Ae (decide (d>(60000))))),(65,(Ae false)),(66,(AV.ptr 100004 4)),(67,(Aa b)),(68,(Ae (decide (b<(0))))),(69,(Ae (decide (b<(0))))),(70,(Ae false)),(71,(AV.ptr 100004 4)),(72,(Aa b)),(73,(Ae (decide (b>(1000000))))),(74,(Ae (decide (b>(1000000))))),(75,(Ae false)),(76,(AV.ptr 100004 5)),(77,(Aa c)),(78,(Ae (decide (c<(0))))),(79,(Ae (decide (c<(0))))),(80,(Ae false)),(81,(AV.ptr 100004 5)),(82,(Aa c)),(83,(Ae (decide (c>(60000))))),(84,(Ae (decide (c>(60000))))),(85,(Aa (IntKind.wrap .i64 (g+(1)))))],((100004,some ⟨[Aa a,Aa e,Aa f,Aa d,Aa b,Aa c],55⟩)::(100004,some ⟨[Aa (0),Aa (0),Aa (0),Aa (0),Aa (0),Aa (0)],55⟩)::m),100136⟩))))))))) else (
Bj pg KK.gl ((100004,some ⟨[Aa a,Aa e,Aa f,Aa d,Aa b,Aa c],55⟩)::(100004,some ⟨[Aa (0),Aa (0),Aa (0),Aa (0),Aa (0),Aa (0)],55⟩)::m) 79 [AV.agg [Aa e,Aa f]] fun y=>
Af y fun i=>
bif (i !=(0)) then (
A8 R ((100004,some ⟨[Aa a,Aa e,Aa f,Aa d,Aa b,Aa c],55⟩)::(100004,some ⟨[Aa (0),Aa (0),Aa (0),Aa (0),Aa (0),Aa (0)],55⟩)::m) [some (Aa i)]) else (
bif (decide (d<(0))) then (
A8 R ((100004,some ⟨[Aa a,Aa e,Aa f,Aa d,Aa b,Aa c],55⟩)::(100004,some ⟨[Aa (0),Aa (0),Aa (0),Aa (0),Aa (0),Aa (0)],55⟩)::m) [some (Aa (4))]) else (
bif (decide (d>(60000))) then (
A8 R ((100004,some ⟨[Aa a,Aa e,Aa f,Aa d,Aa b,Aa c],55⟩)::(100004,some ⟨[Aa (0),Aa (0),Aa (0),Aa (0),Aa (0),Aa (0)],55⟩)::m) [some (Aa (4))]) else (
bif (decide (b<(0))) then (
A8 R ((100004,some ⟨[Aa a,Aa e,Aa f,Aa d,Aa b,Aa c],55⟩)::(100004,some ⟨[Aa (0),Aa (0),Aa (0),Aa (0),Aa (0),Aa (0)],55⟩)::m) [some (Aa (4))]) else (
bif (decide (b>(1000000))) then (
A8 R ((100004,some ⟨[Aa a,Aa e,Aa f,Aa d,Aa b,Aa c],55⟩)::(100004,some ⟨[Aa (0),Aa (0),Aa (0),Aa (0),Aa (0),Aa (0)],55⟩)::m) [some (Aa (4))]) else (
bif (decide (c<(0))) then (
A8 R ((100004,some ⟨[Aa a,Aa e,Aa f,Aa d,Aa b,Aa c],55⟩)::(100004,some ⟨[Aa (0),Aa (0),Aa (0),Aa (0),Aa (0),Aa (0)],55⟩)::m) [some (Aa (4))]) else (
bif (decide (c>(60000))) then (
A8 R ((100004,some ⟨[Aa a,Aa e,Aa f,Aa d,Aa b,Aa c],55⟩)::(100004,some ⟨[Aa (0),Aa (0),Aa (0),Aa (0),Aa (0),Aa (0)],55⟩)::m) [some (Aa (4))]) else (
N0 ⟨[(0,l),(2,(Aa p)),(14,n),(15,(Aa j)),(16,(Aa (IntKind.wrap .i64 (g+(1))))),(17,(Ae (decide (g<j)))),(18,(Aa g)),(19,o),(20,(AV.agg [Aa a,Aa e,Aa f,Aa d,Aa b,Aa c])),(4,(AV.ptr 100004 0)),(3,(Aa g)),(21,(AV.ptr 100004 0)),(22,(AV.ptr 100004 0)),(23,(Aa a)),(24,(Ae (decide (a<(0))))),(25,(Ae false)),(26,(AV.ptr 100004 0)),(27,(AV.ptr 100004 0)),(28,(Aa a)),(29,(Ae (decide (a>(200000))))),(30,(Ae (decide (a>(200000))))),(31,(Ae false)),(32,(Aa g)),(33,(Ae (decide (g>(0))))),(34,(Ae false)),(35,(AV.Bn [])),(36,(AV.Bn [])),(37,(AV.Bn [])),(38,(AV.Bn [])),(39,(AV.Bn [])),(40,(AV.Bn [])),(41,(AV.Bn [])),(42,(AV.Bn [])),(43,(AV.Bn [])),(44,(AV.Bn [])),(45,(AV.Bn [])),(46,(Ae false)),(47,(Ae false)),(48,(AV.ptr 100004 0)),(49,(AV.ptr 100004 1)),(50,(AV.agg [Aa e,Aa f])),(51,(Aa i)),(5,(Aa i)),(52,(Aa i)),(53,(Ae (i !=(0)))),(55,(AV.ptr 100004 0)),(56,(AV.ptr 100004 3)),(57,(Aa d)),(58,(Ae (decide (d<(0))))),(59,(Ae false)),(60,(AV.ptr 100004 0)),(61,(AV.ptr 100004 3)),(62,(Aa d)),(63,(Ae (decide (d>(60000))))),(64,(Ae (decide (d>(60000))))),(65,(Ae false)),(66,(AV.ptr 100004 4)),(67,(Aa b)),(68,(Ae (decide (b<(0))))),(69,(Ae (decide (b<(0))))),(70,(Ae false)),(71,(AV.ptr 100004 4)),(72,(Aa b)),(73,(Ae (decide (b>(1000000))))),(74,(Ae (decide (b>(1000000))))),(75,(Ae false)),(76,(AV.ptr 100004 5)),(77,(Aa c)),(78,(Ae (decide (c<(0))))),(79,(Ae (decide (c<(0))))),(80,(Ae false)),(81,(AV.ptr 100004 5)),(82,(Aa c)),(83,(Ae (decide (c>(60000))))),(84,(Ae (decide (c>(60000))))),(85,(Aa (IntKind.wrap .i64 (g+(1)))))],((100004,some ⟨[Aa a,Aa e,Aa f,Aa d,Aa b,Aa c],55⟩)::(100004,some ⟨[Aa (0),Aa (0),Aa (0),Aa (0),Aa (0),Aa (0)],55⟩)::m),100136⟩))))))))))) else (
A8 R m [some (Aa (0))])
theorem zY (a:AV) (b:Int) (c:AV) (d e:Int) (m:Mem) (R:AV→Mem→Prop) (N0:St→Prop):W pg KK 86 0 mR (Xo a b c d e m) (Aih R N0)=lE a b c d e m R N0:=by kernel_rfl
theorem Am7 (R:AV→Mem→Prop) {σ:Type} (I:σ→Prop) (a:σ→AV) (b:σ→Int) (c:σ→AV) (d e:σ→Int) (m:σ→Mem) (μ:σ→Nat) (step:∀x,I x→lE (a x) (b x) (c x) (d x) (e x) (m x) R (fun s'=>∃y,I y∧μ y<μ x∧Bb KK 86 0 s' (Xo (a y) (b y) (c y) (d y) (e y) (m y)))) (x:σ) (hx:I x) {s:St} (hw:Bb KK 86 0 s (Xo (a x) (b x) (c x) (d x) (e x) (m x))):Bu pg KK 86 0 (.loop mR) s (mG R):=
 Bu.Eh hw (Bu.loops Dl I (fun x=>Xo (a x) (b x) (c x) (d x) (e x) (m x)) μ (fun x hx=>(zY (a x) (b x) (c x) (d x) (e x) (m x) R _).mpr (step x hx)) x hx)
noncomputable def F57 (a:AV) (R:AV→Mem→Prop):Prop:=
Bg (Cn a) fun d=>
Af d fun b=>
bif (decide (b>(64))) then (
A8 R [] [some (Aa (2))]) else (
Bg (Cn a) fun e=>
Af e fun c=>
bif (c==(0)) then (
A8 R [] [some (Aa (3))]) else (
Bg (Cn a) fun f=>
Af f fun g=>
Bu pg KK 86 0 (.loop mR) ⟨[(0,a),(2,(Aa (0))),(7,a),(8,(Aa b)),(9,(Ae (decide (b>(64))))),(6,(Ae (decide (b>(64))))),(11,a),(12,(Aa c)),(13,(Ae (c==(0)))),(10,(Ae (c==(0)))),(14,a),(15,(Aa g)),(16,(Aa (0)))],[],12⟩ (mG R)))
theorem Adc (a:AV) (R:AV→Mem→Prop) (h:F57 a R):Own pg KK.gl 57 [a] R:=Bc Dl Tryz.func57 (code:=c57) Bf Bf Bf (X:=F57 a R) Bf h
noncomputable def Aid:Code:=((Tryz.f164).body).getD .skip
noncomputable def Aow (R:AV→Mem→Prop):A4→St→Prop:=Cr pg Tryz.f164 R
noncomputable def Ze:Code:=C0 Aid 0
noncomputable def Zy (R:AV→Mem→Prop):A4→St→Prop:=Cy pg KK 26 0 Aid 0 (Aow R)
noncomputable def Abx (R:AV→Mem→Prop) (N0:St→Prop):A4→St→Prop:=Cz N0 (Zy R)
def Re (a:Int) (b:AV) (c d:Int) (m:Mem):St:=⟨[(4,(Aa a)),(14,b),(15,(Aa c)),(16,(Aa d))],m,100000⟩
noncomputable def b6 (g:Int) (e:AV) (d b:Int) (m:Mem) (R:AV→Mem→Prop) (N0:St→Prop):Prop:=
bif (decide (b<d)) then (
Bg (Cw 1 e (Aa b)) fun f=>
Bg (Ff (Ao m) f) fun c=>
Bj pg KK.gl m 57 [c] fun h=>
Af h fun a=>
bif (a !=(0)) then (
A8 R m [some (Aa a)]) else (
N0 ⟨[(4,(Aa g)),(14,e),(15,(Aa d)),(16,(Aa (IntKind.wrap .i64 (b+(1))))),(17,(Ae (decide (b<d)))),(18,f),(19,c),(7,c),(20,c),(21,(Aa a)),(8,(Aa a)),(22,(Aa a)),(23,(Ae (a !=(0)))),(25,(Aa (IntKind.wrap .i64 (b+(1)))))],m,100074⟩)) else (
A8 R m [some (Aa (0))])
theorem rQ (a:Int) (b:AV) (c d:Int) (m:Mem) (R:AV→Mem→Prop) (N0:St→Prop):W pg KK 26 0 Ze (Re a b c d m) (Abx R N0)=b6 a b c d m R N0:=by kernel_rfl
theorem Ait (R:AV→Mem→Prop) {σ:Type} (I:σ→Prop) (a:σ→Int) (b:σ→AV) (c d:σ→Int) (m:σ→Mem) (μ:σ→Nat) (step:∀x,I x→b6 (a x) (b x) (c x) (d x) (m x) R (fun s'=>∃y,I y∧μ y<μ x∧Bb KK 26 0 s' (Re (a y) (b y) (c y) (d y) (m y)))) (x:σ) (hx:I x) {s:St} (hw:Bb KK 26 0 s (Re (a x) (b x) (c x) (d x) (m x))):Bu pg KK 26 0 (.loop Ze) s (Zy R):=
 Bu.Eh hw (Bu.loops Dl I (fun x=>Re (a x) (b x) (c x) (d x) (m x)) μ (fun x hx=>(rQ (a x) (b x) (c x) (d x) (m x) R _).mpr (step x hx)) x hx)
noncomputable def Aff (a b:Int) (d:AV) (R:AV→Mem→Prop):Prop:=
Bj pg KK.gl ((0,some ⟨[Aa a,Aa b],92⟩)::[]) 188 [AV.agg [Aa a,Aa b]] fun e=>
Af e fun c=>
bif (c !=(0)) then (
A8 R ((0,some ⟨[Aa a,Aa b],92⟩)::[]) [some (Aa c)]) else (
Bg (Cn d) fun f=>
Af f fun g=>
Bu pg KK 26 0 (.loop Ze) ⟨[(0,(AV.agg [Aa a,Aa b])),(1,d),(2,(AV.ptr 0 0)),(4,(Aa (0))),(9,(AV.agg [Aa a,Aa b])),(10,(Aa c)),(5,(Aa c)),(11,(Aa c)),(12,(Ae (c !=(0)))),(14,d),(15,(Aa g)),(16,(Aa (0)))],((0,some ⟨[Aa a,Aa b],92⟩)::[]),73⟩ (Zy R))
theorem zI (a b:Int) (c:AV) (R:AV→Mem→Prop) (h:Aff a b c R):Own pg KK.gl 164 [AV.agg [Aa a,Aa b],c] R:=Bc Dl Tryz.func164 (code:=Aid) Bf Bf Bf (X:=Aff a b c R) Bf h
noncomputable def Aod:Code:=((Tryz.f223).body).getD .skip
noncomputable def Arz (R:AV→Mem→Prop):A4→St→Prop:=Cr pg Tryz.f223 R
noncomputable def Adh (a b:AV) (R:AV→Mem→Prop):Prop:=
Bg (Cw 6 a (Aa (0))) fun c=>
Bg (Iz 0 c) fun d=>
Bg (Iz 0 d) fun e=>
Bg (Ff (Ao []) e) fun f=>
Af f fun g=>
Bg (Cw 6 b (Aa (0))) fun h=>
Bg (Iz 0 h) fun i=>
Bg (Iz 0 i) fun j=>
Bg (Ff (Ao []) j) fun k=>
Af k fun l=>
Bg (Cv pg (.call ⟨.builtin .max,#[.tmp 0,.tmp 1],#[3,3]⟩) 3 [Aa g,Aa l] (Ao []) 12) fun m=>
Af m fun n=>
Bg (Cn a) fun o=>
Af o fun p=>
Bg (Cw 6 a (Aa (IntKind.wrap .i64 (p-(1))))) fun q=>
Bg (Iz 0 q) fun r=>
Bg (Iz 0 r) fun s=>
Bg (Ff (Ao []) s) fun t=>
Af t fun u=>
Bg (Cn b) fun v=>
Af v fun w=>
Bg (Cw 6 b (Aa (IntKind.wrap .i64 (w-(1))))) fun x=>
Bg (Iz 0 x) fun y=>
Bg (Iz 0 y) fun z=>
Bg (Ff (Ao []) z) fun aa=>
Af aa fun ab=>
Bg (Cv pg (.call ⟨.builtin .min,#[.tmp 0,.tmp 1],#[3,3]⟩) 3 [Aa u,Aa ab] (Ao []) 29) fun ad=>
Af ad fun ae=>
A8 R [] [some (Aa n),some (Aa ae)]
theorem wT (a b:AV) (R:AV→Mem→Prop) (h:Adh a b R):Own pg KK.gl 223 [a,b] R:=Bc Dl Tryz.func223 (code:=Aod) Bf Bf Bf (X:=Adh a b R) Bf h
noncomputable def kA:Code:=((Tryz.f58).body).getD .skip
noncomputable def q58 (R:AV→Mem→Prop):A4→St→Prop:=Cr pg Tryz.f58 R
noncomputable def F58 (a:AV) (R:AV→Mem→Prop):Prop:=
Bg (Cw 6 a (Aa (0))) fun b=>
Bg (Iz 0 b) fun c=>
Bg (Iz 0 c) fun d=>
Bg (Ff (Ao []) d) fun e=>
Af e fun f=>
Bg (Cn a) fun g=>
Af g fun h=>
Bg (Cw 6 a (Aa (IntKind.wrap .i64 (h-(1))))) fun i=>
Bg (Iz 0 i) fun j=>
Bg (Iz 0 j) fun k=>
Bg (Ff (Ao []) k) fun l=>
Af l fun m=>
A8 R [] [some (Aa f),some (Aa m)]
theorem Ag9 (a:AV) (R:AV→Mem→Prop) (h:F58 a R):Own pg KK.gl 58 [a] R:=Bc Dl Tryz.func58 (code:=kA) Bf Bf Bf (X:=F58 a R) Bf h
noncomputable def Aoh:Code:=((Tryz.f141).body).getD .skip
noncomputable def Aqw (R:AV→Mem→Prop):A4→St→Prop:=Cr pg Tryz.f141 R
noncomputable def Ad0 (a b c d e f g:Int) (R:AV→Mem→Prop):Prop:=
A8 R ((0,some ⟨[Aa a,Aa b,Aa c,Aa d,Aa e,Aa f],55⟩)::[]) [some (Aa (IntKind.wrap .i64 (a-g)))]
theorem xT (a b c d e f g:Int) (R:AV→Mem→Prop) (h:Ad0 a b c d e f g R):Own pg KK.gl 141 [AV.agg [Aa a,Aa b,Aa c,Aa d,Aa e,Aa f],Aa g] R:=Bc Dl Tryz.func141 (code:=Aoh) Bf Bf Bf (X:=Ad0 a b c d e f g R) Bf h
noncomputable def Ale:Code:=((Tryz.f140).body).getD .skip
noncomputable def Apk (R:AV→Mem→Prop):A4→St→Prop:=Cr pg Tryz.f140 R
noncomputable def Zh:Code:=C0 Ale 0
noncomputable def Yw (R:AV→Mem→Prop):A4→St→Prop:=Cy pg KK 49 0 Ale 0 (Apk R)
noncomputable def Agz (R:AV→Mem→Prop) (N0:St→Prop):A4→St→Prop:=Cz N0 (Yw R)
def R7 (a:AV) (b:Int) (c:AV) (d:Int) (e:Bool) (f g h:Int) (m:Mem):St:=⟨[(0,a),(1,(Aa b)),(2,c),(6,(Aa d)),(7,(Ae e)),(8,(Aa f)),(9,(Aa g)),(10,(Aa h))],m,100000⟩
noncomputable def Zr (e:AV) (f:Int) (g:AV) (s:Int) (t:Bool) (h a c:Int) (m:Mem) (R:AV→Mem→Prop) (N0:St→Prop):Prop:=
bif (decide (a<c)) then (
Bg (Cv pg (.convert 3 155 (.tmp 0)) 155 [Aa (IntKind.wrap .i64 (a+c))] (Ao m) 100006) fun v2=>
Lz v2 fun i=>
Bg (Cv pg (.binOp .shr 155 (.tmp 0) (.tmp 1) 155) 155 [AV.sc (.int .u64 i),AV.sc (.int .u64 (1))] (Ao m) 100007) fun v4=>
Lz v4 fun j=>
Bg (Cv pg (.convert 155 3 (.tmp 0)) 3 [AV.sc (.int .u64 j)] (Ao m) 100008) fun v6=>
Af v6 fun b=>
Bg (Cw 6 e (Aa b)) fun k=>
Bg (F2 (Ao m) 6 k) fun v9=>
Th v9 fun Jt Em Hu Ll aa Jl=>
Af Jt fun l=>
Af Em fun n=>
Af Hu fun o=>
Af Ll fun p=>
Af aa fun q=>
Af Jl fun r=>
I0 (some g) (some [AV.agg [Aa l,Aa n,Aa o,Aa p,Aa q,Aa r],Aa f]) fun f22 x=>bif KK.pm f22 then Bj pg KK.gl m f22 x (fun u=>
Af u fun d=>
bif (decide (d<(0))) then (
N0 ⟨[(0,e),(1,(Aa f)),(2,g),(6,(Aa s)),(7,(Ae t)),(8,(Aa h)),(9,(Aa (IntKind.wrap .i64 (b+(1))))),(10,(Aa c)),(15,(Aa a)),(16,(Aa c)),(17,(Ae (decide (a<c)))),(18,(Aa a)),(19,(Aa c)),(20,(Aa (IntKind.wrap .i64 (a+c)))),(21,(AV.sc (.int .u64 i))),(22,(AV.sc (.int .u64 j))),(23,(Aa b)),(11,(Aa b)),(24,g),(25,e),(26,(Aa b)),(27,k),(28,(AV.agg [Aa l,Aa n,Aa o,Aa p,Aa q,Aa r])),(29,(Aa f)),(30,(Aa d)),(31,(Ae (decide (d<(0))))),(32,(Aa b)),(33,(Aa (IntKind.wrap .i64 (b+(1)))))],m,100084⟩) else (
N0 ⟨[(0,e),(1,(Aa f)),(2,g),(6,(Aa s)),(7,(Ae t)),(8,(Aa h)),(9,(Aa a)),(10,(Aa b)),(15,(Aa a)),(16,(Aa c)),(17,(Ae (decide (a<c)))),(18,(Aa a)),(19,(Aa c)),(20,(Aa (IntKind.wrap .i64 (a+c)))),(21,(AV.sc (.int .u64 i))),(22,(AV.sc (.int .u64 j))),(23,(Aa b)),(11,(Aa b)),(24,g),(25,e),(26,(Aa b)),(27,k),(28,(AV.agg [Aa l,Aa n,Aa o,Aa p,Aa q,Aa r])),(29,(Aa f)),(30,(Aa d)),(31,(Ae (decide (d<(0))))),(34,(Aa b))],m,100083⟩)) else Ep pg KK.gl m 100016 f22 x fun u y=>
Af u fun d=>
bif (decide (d<(0))) then (
N0 ⟨[(0,e),(1,(Aa f)),(2,g),(6,(Aa s)),(7,(Ae t)),(8,(Aa h)),(9,(Aa (IntKind.wrap .i64 (b+(1))))),(10,(Aa c)),(15,(Aa a)),(16,(Aa c)),(17,(Ae (decide (a<c)))),(18,(Aa a)),(19,(Aa c)),(20,(Aa (IntKind.wrap .i64 (a+c)))),(21,(AV.sc (.int .u64 i))),(22,(AV.sc (.int .u64 j))),(23,(Aa b)),(11,(Aa b)),(24,g),(25,e),(26,(Aa b)),(27,k),(28,(AV.agg [Aa l,Aa n,Aa o,Aa p,Aa q,Aa r])),(29,(Aa f)),(30,(Aa d)),(31,(Ae (decide (d<(0))))),(32,(Aa b)),(33,(Aa (IntKind.wrap .i64 (b+(1)))))],y,100084⟩) else (
N0 ⟨[(0,e),(1,(Aa f)),(2,g),(6,(Aa s)),(7,(Ae t)),(8,(Aa h)),(9,(Aa a)),(10,(Aa b)),(15,(Aa a)),(16,(Aa c)),(17,(Ae (decide (a<c)))),(18,(Aa a)),(19,(Aa c)),(20,(Aa (IntKind.wrap .i64 (a+c)))),(21,(AV.sc (.int .u64 i))),(22,(AV.sc (.int .u64 j))),(23,(Aa b)),(11,(Aa b)),(24,g),(25,e),(26,(Aa b)),(27,k),(28,(AV.agg [Aa l,Aa n,Aa o,Aa p,Aa q,Aa r])),(29,(Aa f)),(30,(Aa d)),(31,(Ae (decide (d<(0))))),(34,(Aa b))],y,100083⟩)) else (
bif (decide (a<h)) then (
Bg (Cw 6 e (Aa a)) fun ab=>
Bg (F2 (Ao m) 6 ab) fun ad=>
Th ad fun ae af c28 ag ah ai=>
Af ae fun aj=>
Af af fun ak=>
Af c28 fun am=>
Af ag fun an=>
Af ah fun ao=>
Af ai fun ap=>
I0 (some g) (some [AV.agg [Aa aj,Aa ak,Aa am,Aa an,Aa ao,Aa ap],Aa f]) fun f38 z=>bif KK.pm f38 then Bj pg KK.gl m f38 z (fun v=>
Af v fun w=>
A8 R m [some (Aa a),some (Ae (w==(0)))]) else Ep pg KK.gl m 100014 f38 z fun v aq=>
Af v fun w=>
A8 R aq [some (Aa a),some (Ae (w==(0)))]) else (
A8 R m [some (Aa a),some (Ae false)]))
theorem rA (a:AV) (b:Int) (c:AV) (d:Int) (e:Bool) (f g h:Int) (m:Mem) (R:AV→Mem→Prop) (N0:St→Prop):W pg KK 49 0 Zh (R7 a b c d e f g h m) (Agz R N0)=Zr a b c d e f g h m R N0:=by kernel_rfl
theorem Ai1 (R:AV→Mem→Prop) {σ:Type} (I:σ→Prop) (a:σ→AV) (b:σ→Int) (c:σ→AV) (d:σ→Int) (e:σ→Bool) (f g h:σ→Int) (m:σ→Mem) (μ:σ→Nat) (step:∀x,I x→Zr (a x) (b x) (c x) (d x) (e x) (f x) (g x) (h x) (m x) R (fun s'=>∃y,I y∧μ y<μ x∧Bb KK 49 0 s' (R7 (a y) (b y) (c y) (d y) (e y) (f y) (g y) (h y) (m y)))) (x:σ) (hx:I x) {s:St} (hw:Bb KK 49 0 s (R7 (a x) (b x) (c x) (d x) (e x) (f x) (g x) (h x) (m x))):Bu pg KK 49 0 (.loop Zh) s (Yw R):=
 Bu.Eh hw (Bu.loops Dl I (fun x=>R7 (a x) (b x) (c x) (d x) (e x) (f x) (g x) (h x) (m x)) μ (fun x hx=>(rA (a x) (b x) (c x) (d x) (e x) (f x) (g x) (h x) (m x) R _).mpr (step x hx)) x hx)
noncomputable def Aew (b:AV) (c:Int) (d:AV) (R:AV→Mem→Prop):Prop:=
Bg (Cn b) fun e=>
Af e fun a=>
Bu pg KK 49 0 (.loop Zh) ⟨[(0,b),(1,(Aa c)),(2,d),(6,(Aa (0))),(7,(Ae false)),(12,b),(13,(Aa a)),(8,(Aa a)),(14,(Aa a)),(9,(Aa (0))),(10,(Aa a))],[],8⟩ (Yw R)
theorem Aas (a:AV) (b:Int) (c:AV) (R:AV→Mem→Prop) (h:Aew a b c R):Own pg KK.gl 140 [a,Aa b,c] R:=Bc Dl Tryz.func140 (code:=Ale) Bf Bf Bf (X:=Aew a b c R) Bf h
noncomputable def Ga:Code:=((Tryz.f143).body).getD .skip
noncomputable def Aq1 (R:AV→Mem→Prop):A4→St→Prop:=Cr pg Tryz.f143 R
noncomputable def Ag0 (b a:Int) (R:AV→Mem→Prop):Prop:=
bif (a==(0)) then (
A8 R [] [some (Aa (0)),some (Aa (10))]) else (
bif (b==(-9223372036854775808)) then (
bif (a==(-1)) then (
A8 R [] [some (Aa (0)),some (Aa (2))]) else (
Bg (Cv pg (.binOp .quo 3 (.tmp 0) (.tmp 1) 3) 3 [Aa b,Aa a] (Ao []) 14) fun e=>
Af e fun c=>
Bg (Cv pg (.binOp .rem 3 (.tmp 0) (.tmp 1) 3) 3 [Aa b,Aa a] (Ao []) 18) fun f=>
Af f fun g=>
bif (g !=(0)) then (
Bg (Cv pg (.binOp .neq 4 (.tmp 0) (.tmp 1) 4) 4 [Ae (decide (b<(0))),Ae (decide (a<(0)))] (Ao []) 25) fun h=>
Iv h fun i=>
bif i then (
A8 R [] [some (Aa (IntKind.wrap .i64 (c-(1)))),some (Aa (0))]) else (
A8 R [] [some (Aa c),some (Aa (0))])) else (
A8 R [] [some (Aa c),some (Aa (0))]))) else (
Bg (Cv pg (.binOp .quo 3 (.tmp 0) (.tmp 1) 3) 3 [Aa b,Aa a] (Ao []) 12) fun j=>
Af j fun d=>
Bg (Cv pg (.binOp .rem 3 (.tmp 0) (.tmp 1) 3) 3 [Aa b,Aa a] (Ao []) 16) fun k=>
Af k fun l=>
bif (l !=(0)) then (
Bg (Cv pg (.binOp .neq 4 (.tmp 0) (.tmp 1) 4) 4 [Ae (decide (b<(0))),Ae (decide (a<(0)))] (Ao []) 23) fun m=>
Iv m fun n=>
bif n then (
A8 R [] [some (Aa (IntKind.wrap .i64 (d-(1)))),some (Aa (0))]) else (
A8 R [] [some (Aa d),some (Aa (0))])) else (
A8 R [] [some (Aa d),some (Aa (0))])))
theorem uB (a b:Int) (R:AV→Mem→Prop) (h:Ag0 a b R):Own pg KK.gl 143 [Aa a,Aa b] R:=Bc Dl Tryz.func143 (code:=Ga) Bf Bf Bf (X:=Ag0 a b R) Bf h
noncomputable def Aoj:Code:=((Tryz.f142).body).getD .skip
noncomputable def Arq (R:AV→Mem→Prop):A4→St→Prop:=Cr pg Tryz.f142 R
noncomputable def Ad4 (a b c d f e:Int) (R:AV→Mem→Prop):Prop:=
bif (decide (e≤(0))) then (
Bg (b9 [Aa (0),Aa (0)] [(0,1),(1,1)] []) fun g=>
C4 pg (Ao ((2,some ⟨[Aa (0),Aa (0)],51⟩)::(1,some ⟨[Aa c,Aa d],51⟩)::(0,some ⟨[Aa a,Aa b],51⟩)::[])) 51 (AV.ptr 2 0) g fun v1 d1=>
A8 R (Ac ((2,some ⟨[Aa (0),Aa (0)],51⟩)::(1,some ⟨[Aa c,Aa d],51⟩)::(0,some ⟨[Aa a,Aa b],51⟩)::[]) d1) [(G4 pg (Ao (Ac ((2,some ⟨[Aa (0),Aa (0)],51⟩)::(1,some ⟨[Aa c,Aa d],51⟩)::(0,some ⟨[Aa a,Aa b],51⟩)::[]) d1)) 51 (AV.ptr 2 0)).map (·.1),some (Aa (10))]) else (
bif (decide (e>(200000))) then (
Bg (b9 [Aa (0),Aa (0)] [(0,1),(1,1)] []) fun h=>
C4 pg (Ao ((2,some ⟨[Aa (0),Aa (0)],51⟩)::(1,some ⟨[Aa c,Aa d],51⟩)::(0,some ⟨[Aa a,Aa b],51⟩)::[])) 51 (AV.ptr 2 0) h fun v3 d3=>
A8 R (Ac ((2,some ⟨[Aa (0),Aa (0)],51⟩)::(1,some ⟨[Aa c,Aa d],51⟩)::(0,some ⟨[Aa a,Aa b],51⟩)::[]) d3) [(G4 pg (Ao (Ac ((2,some ⟨[Aa (0),Aa (0)],51⟩)::(1,some ⟨[Aa c,Aa d],51⟩)::(0,some ⟨[Aa a,Aa b],51⟩)::[]) d3)) 51 (AV.ptr 2 0)).map (·.1),some (Aa (4))]) else (
bif (decide (f<(0))) then (
Bg (b9 [Aa (0),Aa (0)] [(0,1),(1,1)] []) fun i=>
C4 pg (Ao ((2,some ⟨[Aa (0),Aa (0)],51⟩)::(1,some ⟨[Aa c,Aa d],51⟩)::(0,some ⟨[Aa a,Aa b],51⟩)::[])) 51 (AV.ptr 2 0) i fun v5 d5=>
A8 R (Ac ((2,some ⟨[Aa (0),Aa (0)],51⟩)::(1,some ⟨[Aa c,Aa d],51⟩)::(0,some ⟨[Aa a,Aa b],51⟩)::[]) d5) [(G4 pg (Ao (Ac ((2,some ⟨[Aa (0),Aa (0)],51⟩)::(1,some ⟨[Aa c,Aa d],51⟩)::(0,some ⟨[Aa a,Aa b],51⟩)::[]) d5)) 51 (AV.ptr 2 0)).map (·.1),some (Aa (4))]) else (
bif (decide (f>e)) then (
Bg (b9 [Aa (0),Aa (0)] [(0,1),(1,1)] []) fun j=>
C4 pg (Ao ((2,some ⟨[Aa (0),Aa (0)],51⟩)::(1,some ⟨[Aa c,Aa d],51⟩)::(0,some ⟨[Aa a,Aa b],51⟩)::[])) 51 (AV.ptr 2 0) j fun v7 d7=>
A8 R (Ac ((2,some ⟨[Aa (0),Aa (0)],51⟩)::(1,some ⟨[Aa c,Aa d],51⟩)::(0,some ⟨[Aa a,Aa b],51⟩)::[]) d7) [(G4 pg (Ao (Ac ((2,some ⟨[Aa (0),Aa (0)],51⟩)::(1,some ⟨[Aa c,Aa d],51⟩)::(0,some ⟨[Aa a,Aa b],51⟩)::[]) d7)) 51 (AV.ptr 2 0)).map (·.1),some (Aa (4))]) else (
Bj pg KK.gl ((2,some ⟨[Aa (0),Aa (0)],51⟩)::(1,some ⟨[Aa c,Aa d],51⟩)::(0,some ⟨[Aa a,Aa b],51⟩)::[]) 79 [AV.agg [Aa a,Aa b]] fun k=>
Af k fun l=>
bif (l !=(0)) then (
Bg (b9 [Aa (0),Aa (0)] [(0,1),(1,1)] []) fun m=>
Bj pg KK.gl ((2,some ⟨[Aa (0),Aa (0)],51⟩)::(1,some ⟨[Aa c,Aa d],51⟩)::(0,some ⟨[Aa a,Aa b],51⟩)::[]) 79 [AV.agg [Aa a,Aa b]] fun n=>
Af n fun o=>
C4 pg (Ao ((2,some ⟨[Aa (0),Aa (0)],51⟩)::(1,some ⟨[Aa c,Aa d],51⟩)::(0,some ⟨[Aa a,Aa b],51⟩)::[])) 51 (AV.ptr 2 0) m fun ae d13=>
A8 R (Ac ((2,some ⟨[Aa (0),Aa (0)],51⟩)::(1,some ⟨[Aa c,Aa d],51⟩)::(0,some ⟨[Aa a,Aa b],51⟩)::[]) d13) [(G4 pg (Ao (Ac ((2,some ⟨[Aa (0),Aa (0)],51⟩)::(1,some ⟨[Aa c,Aa d],51⟩)::(0,some ⟨[Aa a,Aa b],51⟩)::[]) d13)) 51 (AV.ptr 2 0)).map (·.1),some (Aa o)]) else (
Bj pg KK.gl ((2,some ⟨[Aa (0),Aa (0)],51⟩)::(1,some ⟨[Aa c,Aa d],51⟩)::(0,some ⟨[Aa a,Aa b],51⟩)::[]) 79 [AV.agg [Aa c,Aa d]] fun p=>
Af p fun q=>
bif (q !=(0)) then (
Bg (b9 [Aa (0),Aa (0)] [(0,1),(1,1)] []) fun r=>
Bj pg KK.gl ((2,some ⟨[Aa (0),Aa (0)],51⟩)::(1,some ⟨[Aa c,Aa d],51⟩)::(0,some ⟨[Aa a,Aa b],51⟩)::[]) 79 [AV.agg [Aa c,Aa d]] fun s=>
Af s fun t=>
C4 pg (Ao ((2,some ⟨[Aa (0),Aa (0)],51⟩)::(1,some ⟨[Aa c,Aa d],51⟩)::(0,some ⟨[Aa a,Aa b],51⟩)::[])) 51 (AV.ptr 2 0) r fun af d19=>
A8 R (Ac ((2,some ⟨[Aa (0),Aa (0)],51⟩)::(1,some ⟨[Aa c,Aa d],51⟩)::(0,some ⟨[Aa a,Aa b],51⟩)::[]) d19) [(G4 pg (Ao (Ac ((2,some ⟨[Aa (0),Aa (0)],51⟩)::(1,some ⟨[Aa c,Aa d],51⟩)::(0,some ⟨[Aa a,Aa b],51⟩)::[]) d19)) 51 (AV.ptr 2 0)).map (·.1),some (Aa t)]) else (
Bj pg KK.gl ((2,some ⟨[Aa (0),Aa (0)],51⟩)::(1,some ⟨[Aa c,Aa d],51⟩)::(0,some ⟨[Aa a,Aa b],51⟩)::[]) 143 [Aa (IntKind.wrap .i64 ((IntKind.wrap .i64 (c-a))*f)),Aa e] fun u=>
H5 u fun v w=>
Af v fun x=>
Af w fun ag=>
Bj pg KK.gl ((2,some ⟨[Aa (0),Aa (0)],51⟩)::(1,some ⟨[Aa c,Aa d],51⟩)::(0,some ⟨[Aa a,Aa b],51⟩)::[]) 143 [Aa (IntKind.wrap .i64 ((IntKind.wrap .i64 (d-b))*f)),Aa e] fun y=>
H5 y fun z aa=>
Af z fun ab=>
Af aa fun ah=>
Bg (b9 [Aa (0),Aa (0)] [(0,1),(1,1)] [(0,(Aa (IntKind.wrap .i64 (a+x)))),(1,(Aa (IntKind.wrap .i64 (b+ab))))]) fun ad=>
C4 pg (Ao ((2,some ⟨[Aa (0),Aa (0)],51⟩)::(1,some ⟨[Aa c,Aa d],51⟩)::(0,some ⟨[Aa a,Aa b],51⟩)::[])) 51 (AV.ptr 2 0) ad fun ai d31=>
A8 R (Ac ((2,some ⟨[Aa (0),Aa (0)],51⟩)::(1,some ⟨[Aa c,Aa d],51⟩)::(0,some ⟨[Aa a,Aa b],51⟩)::[]) d31) [(G4 pg (Ao (Ac ((2,some ⟨[Aa (0),Aa (0)],51⟩)::(1,some ⟨[Aa c,Aa d],51⟩)::(0,some ⟨[Aa a,Aa b],51⟩)::[]) d31)) 51 (AV.ptr 2 0)).map (·.1),some (Aa (0))]))))))
theorem vX (a b c d e f:Int) (R:AV→Mem→Prop) (h:Ad4 a b c d e f R):Own pg KK.gl 142 [AV.agg [Aa a,Aa b],AV.agg [Aa c,Aa d],Aa e,Aa f] R:=Bc Dl Tryz.func142 (code:=Aoj) Bf Bf Bf (X:=Ad4 a b c d e f R) Bf h
noncomputable def Aj9:Code:=((Tryz.f144).body).getD .skip
noncomputable def Arp (R:AV→Mem→Prop):A4→St→Prop:=Cr pg Tryz.f144 R
noncomputable def Ae8 (c d:Int) (R:AV→Mem→Prop):Prop:=
Bj pg KK.gl [] 143 [Aa c,Aa d] fun e=>
H5 e fun f g=>
Af f fun b=>
Af g fun a=>
bif (a==(0)) then (
Bg (Cv pg (.binOp .rem 3 (.tmp 0) (.tmp 1) 3) 3 [Aa c,Aa d] (Ao []) 78) fun h=>
Af h fun i=>
bif (i !=(0)) then (
A8 R [] [some (Aa (IntKind.wrap .i64 (b+(1)))),some (Aa a)]) else (
A8 R [] [some (Aa b),some (Aa a)])) else (
A8 R [] [some (Aa b),some (Aa a)])
theorem zA (a b:Int) (R:AV→Mem→Prop) (h:Ae8 a b R):Own pg KK.gl 144 [Aa a,Aa b] R:=Bc Dl Tryz.func144 (code:=Aj9) Bf Bf Bf (X:=Ae8 a b R) Bf h
noncomputable def c59:Code:=((Tryz.f59).body).getD .skip
noncomputable def q59 (R:AV→Mem→Prop):A4→St→Prop:=Cr pg Tryz.f59 R
noncomputable def F59 (e:AV) (d:Int) (R:AV→Mem→Prop):Prop:=
Ep pg KK.gl ((0,some ⟨[Aa (0),Aa (0),Aa (0),Aa (0),Aa (0),Aa (0)],55⟩)::[]) 3 140 [e,Aa d,AV.fn 141 []] fun x a=>
H5 x fun y z=>
Af y fun i=>
Iv z fun b4=>
bif b4 then (
Bg (Cw 6 e (Aa i)) fun v5=>
Bg (F2 (Ao a) 6 v5) fun v6=>
Th v6 fun c7 c8 c9 Jt Em Hu=>
Af c7 fun aa=>
Af c8 fun ab=>
Af c9 fun ad=>
Af Jt fun ae=>
Af Em fun af=>
Af Hu fun ag=>
C4 pg (Ao a) 55 (AV.ptr 0 0) (AV.agg [Aa aa,Aa ab,Aa ad,Aa ae,Aa af,Aa ag]) fun cu d19=>
A8 R (Ac a d19) [(G4 pg (Ao (Ac a d19)) 55 (AV.ptr 0 0)).map (·.1)]) else (
Gb (Cw 6 e (Aa (IntKind.wrap .i64 (i-(1))))) fun j d20=>
Gb (F2 (Cf (Ac a d20) (A3 j++([]))) 6 j) fun ah d21=>
Th ah fun ai aj ak am an ao=>
Af ai fun k=>
Af aj fun l=>
Af ak fun m=>
Af am fun n=>
Af an fun o=>
Af ao fun p=>
Gb (Cw 6 e (Aa i)) fun q d34=>
Gb (F2 (Cf (Ac (Ac (Ac a d20) d21) d34) (A3 q++([]))) 6 q) fun ap d35=>
Th ap fun aq ar au av aw Mm=>
Af aq fun r=>
Af ar fun s=>
Af au fun t=>
Af av fun u=>
Af aw fun v=>
Af Mm fun w=>
C4 pg (Cf ((83,some ⟨[Aa (0),Aa (0),Aa (0),Aa (0),Aa (0),Aa (0)],55⟩)::(82,some ⟨[Aa (0),Aa (0),Aa (0),Aa (0),Aa (0),Aa (0)],55⟩)::(Ac (Ac (Ac (Ac a d20) d21) d34) d35)) (A3 (AV.ptr 82 0)++(A3 (AV.agg [Aa k,Aa l,Aa m,Aa n,Aa o,Aa p])++([])))) 55 (AV.ptr 82 0) (AV.agg [Aa k,Aa l,Aa m,Aa n,Aa o,Aa p]) fun cv d48=>
C4 pg (Cf (Ac ((83,some ⟨[Aa (0),Aa (0),Aa (0),Aa (0),Aa (0),Aa (0)],55⟩)::(82,some ⟨[Aa (0),Aa (0),Aa (0),Aa (0),Aa (0),Aa (0)],55⟩)::(Ac (Ac (Ac (Ac a d20) d21) d34) d35)) d48) (A3 (AV.ptr 83 0)++(A3 (AV.agg [Aa r,Aa s,Aa t,Aa u,Aa v,Aa w])++([])))) 55 (AV.ptr 83 0) (AV.agg [Aa r,Aa s,Aa t,Aa u,Aa v,Aa w]) fun cw d49=>
Hv (D5 [0,0,2,7,15,0,0,96,224,0,0,1567,4095] [⟨[],[]⟩,⟨[],[]⟩,⟨[],[]⟩,⟨d20,[]⟩,⟨d21,A3 j++([])⟩,⟨[],[]⟩,⟨[],[]⟩,⟨d34,[]⟩,⟨d35,A3 q++([])⟩,⟨[(82,some ⟨[Aa (0),Aa (0),Aa (0),Aa (0),Aa (0),Aa (0)],55⟩)],[]⟩,⟨[(83,some ⟨[Aa (0),Aa (0),Aa (0),Aa (0),Aa (0),Aa (0)],55⟩)],[]⟩,⟨d48,A3 (AV.ptr 82 0)++(A3 (AV.agg [Aa k,Aa l,Aa m,Aa n,Aa o,Aa p])++([]))⟩,⟨d49,A3 (AV.ptr 83 0)++(A3 (AV.agg [Aa r,Aa s,Aa t,Aa u,Aa v,Aa w])++([]))⟩]) (Bg (Ff (Ao (Ac (Ac ((83,some ⟨[Aa (0),Aa (0),Aa (0),Aa (0),Aa (0),Aa (0)],55⟩)::(82,some ⟨[Aa (0),Aa (0),Aa (0),Aa (0),Aa (0),Aa (0)],55⟩)::(Ac (Ac (Ac (Ac a d20) d21) d34) d35)) d48) d49)) (AV.ptr 82 0)) fun ax=>
Af ax fun f=>
Bg (Ff (Ao (Ac (Ac ((83,some ⟨[Aa (0),Aa (0),Aa (0),Aa (0),Aa (0),Aa (0)],55⟩)::(82,some ⟨[Aa (0),Aa (0),Aa (0),Aa (0),Aa (0),Aa (0)],55⟩)::(Ac (Ac (Ac (Ac a d20) d21) d34) d35)) d48) d49)) (AV.ptr 83 0)) fun ay=>
Af ay fun g=>
Bg (Ff (Ao (Ac (Ac ((83,some ⟨[Aa (0),Aa (0),Aa (0),Aa (0),Aa (0),Aa (0)],55⟩)::(82,some ⟨[Aa (0),Aa (0),Aa (0),Aa (0),Aa (0),Aa (0)],55⟩)::(Ac (Ac (Ac (Ac a d20) d21) d34) d35)) d48) d49)) (AV.ptr 82 0)) fun az=>
Af az fun h=>
Bg (F2 (Ao (Ac (Ac ((83,some ⟨[Aa (0),Aa (0),Aa (0),Aa (0),Aa (0),Aa (0)],55⟩)::(82,some ⟨[Aa (0),Aa (0),Aa (0),Aa (0),Aa (0),Aa (0)],55⟩)::(Ac (Ac (Ac (Ac a d20) d21) d34) d35)) d48) d49)) 2 (AV.ptr 82 1)) fun ba=>
Da ba fun c57 kA=>
Af c57 fun bb=>
Af kA fun bc=>
Bg (F2 (Ao (Ac (Ac ((83,some ⟨[Aa (0),Aa (0),Aa (0),Aa (0),Aa (0),Aa (0)],55⟩)::(82,some ⟨[Aa (0),Aa (0),Aa (0),Aa (0),Aa (0),Aa (0)],55⟩)::(Ac (Ac (Ac (Ac a d20) d21) d34) d35)) d48) d49)) 2 (AV.ptr 83 1)) fun bd=>
Da bd fun be bf=>
Af be fun bg=>
Af bf fun bh=>
Bj pg KK.gl (Ac (Ac ((83,some ⟨[Aa (0),Aa (0),Aa (0),Aa (0),Aa (0),Aa (0)],55⟩)::(82,some ⟨[Aa (0),Aa (0),Aa (0),Aa (0),Aa (0),Aa (0)],55⟩)::(Ac (Ac (Ac (Ac a d20) d21) d34) d35)) d48) d49) 142 [AV.agg [Aa bb,Aa bc],AV.agg [Aa bg,Aa bh],Aa (IntKind.wrap .i64 (d-f)),Aa (IntKind.wrap .i64 (g-h))] fun bi=>
H5 bi fun bj bk=>
Da bj fun bl bm=>
Af bl fun b=>
Af bm fun c=>
Af bk fun cx=>
Bg (Ff (Ao ((175,some ⟨[Aa b,Aa c],51⟩)::(175,some ⟨[Aa (0),Aa (0)],51⟩)::(Ac (Ac ((83,some ⟨[Aa (0),Aa (0),Aa (0),Aa (0),Aa (0),Aa (0)],55⟩)::(82,some ⟨[Aa (0),Aa (0),Aa (0),Aa (0),Aa (0),Aa (0)],55⟩)::(Ac (Ac (Ac (Ac a d20) d21) d34) d35)) d48) d49))) (AV.ptr 83 3)) fun bn=>
Af bn fun bo=>
Bg (Ff (Ao ((175,some ⟨[Aa b,Aa c],51⟩)::(175,some ⟨[Aa (0),Aa (0)],51⟩)::(Ac (Ac ((83,some ⟨[Aa (0),Aa (0),Aa (0),Aa (0),Aa (0),Aa (0)],55⟩)::(82,some ⟨[Aa (0),Aa (0),Aa (0),Aa (0),Aa (0),Aa (0)],55⟩)::(Ac (Ac (Ac (Ac a d20) d21) d34) d35)) d48) d49))) (AV.ptr 82 3)) fun bp=>
Af bp fun bq=>
Bj pg KK.gl ((175,some ⟨[Aa b,Aa c],51⟩)::(175,some ⟨[Aa (0),Aa (0)],51⟩)::(Ac (Ac ((83,some ⟨[Aa (0),Aa (0),Aa (0),Aa (0),Aa (0),Aa (0)],55⟩)::(82,some ⟨[Aa (0),Aa (0),Aa (0),Aa (0),Aa (0),Aa (0)],55⟩)::(Ac (Ac (Ac (Ac a d20) d21) d34) d35)) d48) d49)) 143 [Aa (IntKind.wrap .i64 ((IntKind.wrap .i64 (bo-bq))*(IntKind.wrap .i64 (d-f)))),Aa (IntKind.wrap .i64 (g-h))] fun br=>
H5 br fun c79 bs=>
Af c79 fun bt=>
Af bs fun cy=>
Bg (Ff (Ao ((175,some ⟨[Aa b,Aa c],51⟩)::(175,some ⟨[Aa (0),Aa (0)],51⟩)::(Ac (Ac ((83,some ⟨[Aa (0),Aa (0),Aa (0),Aa (0),Aa (0),Aa (0)],55⟩)::(82,some ⟨[Aa (0),Aa (0),Aa (0),Aa (0),Aa (0),Aa (0)],55⟩)::(Ac (Ac (Ac (Ac a d20) d21) d34) d35)) d48) d49))) (AV.ptr 83 4)) fun bu=>
Af bu fun bv=>
Bg (Ff (Ao ((175,some ⟨[Aa b,Aa c],51⟩)::(175,some ⟨[Aa (0),Aa (0)],51⟩)::(Ac (Ac ((83,some ⟨[Aa (0),Aa (0),Aa (0),Aa (0),Aa (0),Aa (0)],55⟩)::(82,some ⟨[Aa (0),Aa (0),Aa (0),Aa (0),Aa (0),Aa (0)],55⟩)::(Ac (Ac (Ac (Ac a d20) d21) d34) d35)) d48) d49))) (AV.ptr 82 4)) fun bw=>
Af bw fun bz=>
Bj pg KK.gl ((175,some ⟨[Aa b,Aa c],51⟩)::(175,some ⟨[Aa (0),Aa (0)],51⟩)::(Ac (Ac ((83,some ⟨[Aa (0),Aa (0),Aa (0),Aa (0),Aa (0),Aa (0)],55⟩)::(82,some ⟨[Aa (0),Aa (0),Aa (0),Aa (0),Aa (0),Aa (0)],55⟩)::(Ac (Ac (Ac (Ac a d20) d21) d34) d35)) d48) d49)) 144 [Aa (IntKind.wrap .i64 ((IntKind.wrap .i64 (bv-bz))*(IntKind.wrap .i64 (d-f)))),Aa (IntKind.wrap .i64 (g-h))] fun ca=>
H5 ca fun cb cc=>
Af cb fun cd=>
Af cc fun cz=>
Bg (Ff (Ao ((175,some ⟨[Aa b,Aa c],51⟩)::(175,some ⟨[Aa (0),Aa (0)],51⟩)::(Ac (Ac ((83,some ⟨[Aa (0),Aa (0),Aa (0),Aa (0),Aa (0),Aa (0)],55⟩)::(82,some ⟨[Aa (0),Aa (0),Aa (0),Aa (0),Aa (0),Aa (0)],55⟩)::(Ac (Ac (Ac (Ac a d20) d21) d34) d35)) d48) d49))) (AV.ptr 83 5)) fun ce=>
Af ce fun cf=>
Bg (Ff (Ao ((175,some ⟨[Aa b,Aa c],51⟩)::(175,some ⟨[Aa (0),Aa (0)],51⟩)::(Ac (Ac ((83,some ⟨[Aa (0),Aa (0),Aa (0),Aa (0),Aa (0),Aa (0)],55⟩)::(82,some ⟨[Aa (0),Aa (0),Aa (0),Aa (0),Aa (0),Aa (0)],55⟩)::(Ac (Ac (Ac (Ac a d20) d21) d34) d35)) d48) d49))) (AV.ptr 82 5)) fun cg=>
Af cg fun ch=>
Bj pg KK.gl ((175,some ⟨[Aa b,Aa c],51⟩)::(175,some ⟨[Aa (0),Aa (0)],51⟩)::(Ac (Ac ((83,some ⟨[Aa (0),Aa (0),Aa (0),Aa (0),Aa (0),Aa (0)],55⟩)::(82,some ⟨[Aa (0),Aa (0),Aa (0),Aa (0),Aa (0),Aa (0)],55⟩)::(Ac (Ac (Ac (Ac a d20) d21) d34) d35)) d48) d49)) 144 [Aa (IntKind.wrap .i64 ((IntKind.wrap .i64 (cf-ch))*(IntKind.wrap .i64 (d-f)))),Aa (IntKind.wrap .i64 (g-h))] fun ci=>
H5 ci fun cj ck=>
Af cj fun cl=>
Af ck fun da=>
Bg (Ff (Ao ((175,some ⟨[Aa b,Aa c],51⟩)::(175,some ⟨[Aa (0),Aa (0)],51⟩)::(Ac (Ac ((83,some ⟨[Aa (0),Aa (0),Aa (0),Aa (0),Aa (0),Aa (0)],55⟩)::(82,some ⟨[Aa (0),Aa (0),Aa (0),Aa (0),Aa (0),Aa (0)],55⟩)::(Ac (Ac (Ac (Ac a d20) d21) d34) d35)) d48) d49))) (AV.ptr 82 3)) fun cm=>
Af cm fun cn=>
Bg (b9 [Aa (0),Aa (0),Aa (0),Aa (0)] [(0,1),(1,2),(3,1)] [(0,(Aa d)),(1,(AV.agg [Aa b,Aa c])),(2,(Aa (IntKind.wrap .i64 (cn+bt))))]) fun co=>
Bg (Ff (Ao ((175,some ⟨[Aa b,Aa c],51⟩)::(175,some ⟨[Aa (0),Aa (0)],51⟩)::(Ac (Ac ((83,some ⟨[Aa (0),Aa (0),Aa (0),Aa (0),Aa (0),Aa (0)],55⟩)::(82,some ⟨[Aa (0),Aa (0),Aa (0),Aa (0),Aa (0),Aa (0)],55⟩)::(Ac (Ac (Ac (Ac a d20) d21) d34) d35)) d48) d49))) (AV.ptr 82 4)) fun cp=>
Af cp fun cq=>
Bg (Ff (Ao ((175,some ⟨[Aa b,Aa c],51⟩)::(175,some ⟨[Aa (0),Aa (0)],51⟩)::(Ac (Ac ((83,some ⟨[Aa (0),Aa (0),Aa (0),Aa (0),Aa (0),Aa (0)],55⟩)::(82,some ⟨[Aa (0),Aa (0),Aa (0),Aa (0),Aa (0),Aa (0)],55⟩)::(Ac (Ac (Ac (Ac a d20) d21) d34) d35)) d48) d49))) (AV.ptr 82 5)) fun cr=>
Af cr fun cs=>
Bg (b9 [Aa (0),Aa (0),Aa (0),Aa (0),Aa (0),Aa (0)] [(0,4),(4,1),(5,1)] [(0,co),(1,(Aa (IntKind.wrap .i64 (cq+cd)))),(2,(Aa (IntKind.wrap .i64 (cs+cl))))]) fun ct=>
C4 pg (Ao ((175,some ⟨[Aa b,Aa c],51⟩)::(175,some ⟨[Aa (0),Aa (0)],51⟩)::(Ac (Ac ((83,some ⟨[Aa (0),Aa (0),Aa (0),Aa (0),Aa (0),Aa (0)],55⟩)::(82,some ⟨[Aa (0),Aa (0),Aa (0),Aa (0),Aa (0),Aa (0)],55⟩)::(Ac (Ac (Ac (Ac a d20) d21) d34) d35)) d48) d49))) 55 (AV.ptr 0 0) ct fun db d109=>
A8 R (Ac ((175,some ⟨[Aa b,Aa c],51⟩)::(175,some ⟨[Aa (0),Aa (0)],51⟩)::(Ac (Ac ((83,some ⟨[Aa (0),Aa (0),Aa (0),Aa (0),Aa (0),Aa (0)],55⟩)::(82,some ⟨[Aa (0),Aa (0),Aa (0),Aa (0),Aa (0),Aa (0)],55⟩)::(Ac (Ac (Ac (Ac a d20) d21) d34) d35)) d48) d49)) d109) [(G4 pg (Ao (Ac ((175,some ⟨[Aa b,Aa c],51⟩)::(175,some ⟨[Aa (0),Aa (0)],51⟩)::(Ac (Ac ((83,some ⟨[Aa (0),Aa (0),Aa (0),Aa (0),Aa (0),Aa (0)],55⟩)::(82,some ⟨[Aa (0),Aa (0),Aa (0),Aa (0),Aa (0),Aa (0)],55⟩)::(Ac (Ac (Ac (Ac a d20) d21) d34) d35)) d48) d49)) d109)) 55 (AV.ptr 0 0)).map (·.1)]))
theorem Afz (a:AV) (b:Int) (R:AV→Mem→Prop) (h:F59 a b R):Own pg KK.gl 59 [a,Aa b] R:=Bc Dl Tryz.func59 (code:=c59) Bf Bf Bf (X:=F59 a b R) Bf h
noncomputable def Jl:Code:=((Tryz.f15).body).getD .skip
noncomputable def q15 (R:AV→Mem→Prop):A4→St→Prop:=Cr pg Tryz.f15 R
noncomputable def F15 (a:AV) (b:Int) (R:AV→Mem→Prop):Prop:=
Bj pg KK.gl ((0,some ⟨[Aa (0),Aa (0),Aa (0),Aa (0),Aa (0),Aa (0)],55⟩)::[]) 57 [a] fun j=>
Af j fun c=>
bif (c !=(0)) then (
Bg (b9 [Aa (0),Aa (0),Aa (0),Aa (0),Aa (0),Aa (0)] [(0,4),(4,1),(5,1)] []) fun k=>
C4 pg (Ao ((0,some ⟨[Aa (0),Aa (0),Aa (0),Aa (0),Aa (0),Aa (0)],55⟩)::[])) 55 (AV.ptr 0 0) k fun w d3=>
A8 R (Ac ((0,some ⟨[Aa (0),Aa (0),Aa (0),Aa (0),Aa (0),Aa (0)],55⟩)::[]) d3) [(G4 pg (Ao (Ac ((0,some ⟨[Aa (0),Aa (0),Aa (0),Aa (0),Aa (0),Aa (0)],55⟩)::[]) d3)) 55 (AV.ptr 0 0)).map (·.1),some (Aa c)]) else (
Bj pg KK.gl ((0,some ⟨[Aa (0),Aa (0),Aa (0),Aa (0),Aa (0),Aa (0)],55⟩)::[]) 58 [a] fun l=>
H5 l fun c5 m=>
Af c5 fun n=>
Af m fun o=>
bif (decide (b<n)) then (
Bg (b9 [Aa (0),Aa (0),Aa (0),Aa (0),Aa (0),Aa (0)] [(0,4),(4,1),(5,1)] []) fun p=>
C4 pg (Ao ((0,some ⟨[Aa (0),Aa (0),Aa (0),Aa (0),Aa (0),Aa (0)],55⟩)::[])) 55 (AV.ptr 0 0) p fun x d10=>
A8 R (Ac ((0,some ⟨[Aa (0),Aa (0),Aa (0),Aa (0),Aa (0),Aa (0)],55⟩)::[]) d10) [(G4 pg (Ao (Ac ((0,some ⟨[Aa (0),Aa (0),Aa (0),Aa (0),Aa (0),Aa (0)],55⟩)::[]) d10)) 55 (AV.ptr 0 0)).map (·.1),some (Aa (12))]) else (
bif (decide (b>o)) then (
Bg (b9 [Aa (0),Aa (0),Aa (0),Aa (0),Aa (0),Aa (0)] [(0,4),(4,1),(5,1)] []) fun q=>
C4 pg (Ao ((0,some ⟨[Aa (0),Aa (0),Aa (0),Aa (0),Aa (0),Aa (0)],55⟩)::[])) 55 (AV.ptr 0 0) q fun y d12=>
A8 R (Ac ((0,some ⟨[Aa (0),Aa (0),Aa (0),Aa (0),Aa (0),Aa (0)],55⟩)::[]) d12) [(G4 pg (Ao (Ac ((0,some ⟨[Aa (0),Aa (0),Aa (0),Aa (0),Aa (0),Aa (0)],55⟩)::[]) d12)) 55 (AV.ptr 0 0)).map (·.1),some (Aa (12))]) else (
Bj pg KK.gl ((0,some ⟨[Aa (0),Aa (0),Aa (0),Aa (0),Aa (0),Aa (0)],55⟩)::[]) 59 [a,Aa b] fun r=>
Th r fun s Jl gY t u v=>
Af s fun d=>
Af Jl fun e=>
Af gY fun f=>
Af t fun g=>
Af u fun h=>
Af v fun i=>
A8 R ((0,some ⟨[Aa d,Aa e,Aa f,Aa g,Aa h,Aa i],55⟩)::(0,some ⟨[Aa (0),Aa (0),Aa (0),Aa (0),Aa (0),Aa (0)],55⟩)::[]) [some (AV.agg [Aa d,Aa e,Aa f,Aa g,Aa h,Aa i]),some (Aa (0))])))
theorem Aa9 (a:AV) (b:Int) (R:AV→Mem→Prop) (h:F15 a b R):Own pg KK.gl 15 [a,Aa b] R:=Bc Dl Tryz.func15 (code:=Jl) Bf Bf Bf (X:=F15 a b R) Bf h
noncomputable def Apg:Code:=((Tryz.f249).body).getD .skip
noncomputable def Ar3 (R:AV→Mem→Prop):A4→St→Prop:=Cr pg Tryz.f249 R
noncomputable def Ae0 (a b c d:Int) (R:AV→Mem→Prop):Prop:=
Bg (b9 [Aa (0),Aa (0)] [(0,1),(1,1)] [(0,(Aa (IntKind.wrap .i64 (a-c)))),(1,(Aa (IntKind.wrap .i64 (b-d))))]) fun e=>
C4 pg (Ao ((2,some ⟨[Aa (0),Aa (0)],51⟩)::(1,some ⟨[Aa c,Aa d],51⟩)::(0,some ⟨[Aa a,Aa b],51⟩)::[])) 51 (AV.ptr 2 0) e fun f d1=>
A8 R (Ac ((2,some ⟨[Aa (0),Aa (0)],51⟩)::(1,some ⟨[Aa c,Aa d],51⟩)::(0,some ⟨[Aa a,Aa b],51⟩)::[]) d1) [(G4 pg (Ao (Ac ((2,some ⟨[Aa (0),Aa (0)],51⟩)::(1,some ⟨[Aa c,Aa d],51⟩)::(0,some ⟨[Aa a,Aa b],51⟩)::[]) d1)) 51 (AV.ptr 2 0)).map (·.1)]
theorem zG (a b c d:Int) (R:AV→Mem→Prop) (h:Ae0 a b c d R):Own pg KK.gl 249 [AV.agg [Aa a,Aa b],AV.agg [Aa c,Aa d]] R:=Bc Dl Tryz.func249 (code:=Apg) Bf Bf Bf (X:=Ae0 a b c d R) Bf h
noncomputable def Aoo:Code:=((Tryz.f328).body).getD .skip
noncomputable def Arb (R:AV→Mem→Prop):A4→St→Prop:=Cr pg Tryz.f328 R
noncomputable def Af9 (a b c d:Int) (R:AV→Mem→Prop):Prop:=
A8 R ((1,some ⟨[Aa c,Aa d],51⟩)::(0,some ⟨[Aa a,Aa b],51⟩)::[]) [some (Aa (IntKind.wrap .i64 ((IntKind.wrap .i64 (a*c))+(IntKind.wrap .i64 (b*d)))))]
theorem uF (a b c d:Int) (R:AV→Mem→Prop) (h:Af9 a b c d R):Own pg KK.gl 328 [AV.agg [Aa a,Aa b],AV.agg [Aa c,Aa d]] R:=Bc Dl Tryz.func328 (code:=Aoo) Bf Bf Bf (X:=Af9 a b c d R) Bf h
noncomputable def Ao1:Code:=((Tryz.f280).body).getD .skip
noncomputable def Aqv (R:AV→Mem→Prop):A4→St→Prop:=Cr pg Tryz.f280 R
noncomputable def Aed (a b c d:Int) (R:AV→Mem→Prop):Prop:=
Bj pg KK.gl ((1,some ⟨[Aa c,Aa d],51⟩)::(0,some ⟨[Aa a,Aa b],51⟩)::[]) 249 [AV.agg [Aa a,Aa b],AV.agg [Aa c,Aa d]] fun g=>
Da g fun h i=>
Af h fun e=>
Af i fun f=>
Bj pg KK.gl ((69,some ⟨[Aa e,Aa f],51⟩)::(69,some ⟨[Aa (0),Aa (0)],51⟩)::(1,some ⟨[Aa c,Aa d],51⟩)::(0,some ⟨[Aa a,Aa b],51⟩)::[]) 328 [AV.agg [Aa e,Aa f],AV.agg [Aa e,Aa f]] fun j=>
Af j fun k=>
A8 R ((69,some ⟨[Aa e,Aa f],51⟩)::(69,some ⟨[Aa (0),Aa (0)],51⟩)::(1,some ⟨[Aa c,Aa d],51⟩)::(0,some ⟨[Aa a,Aa b],51⟩)::[]) [some (Aa k)]
theorem xX (a b c d:Int) (R:AV→Mem→Prop) (h:Aed a b c d R):Own pg KK.gl 280 [AV.agg [Aa a,Aa b],AV.agg [Aa c,Aa d]] R:=Bc Dl Tryz.func280 (code:=Ao1) Bf Bf Bf (X:=Aed a b c d R) Bf h
noncomputable def Ajw:Code:=((Tryz.f281).body).getD .skip
noncomputable def An9 (R:AV→Mem→Prop):A4→St→Prop:=Cr pg Tryz.f281 R
noncomputable def bU:Code:=C0 Ajw 0
noncomputable def Z6 (R:AV→Mem→Prop):A4→St→Prop:=Cy pg KK 27 0 Ajw 0 (An9 R)
noncomputable def Adm (R:AV→Mem→Prop) (N0:St→Prop):A4→St→Prop:=Cz N0 (Z6 R)
def R4 (a b c d:Int) (m:Mem):St:=⟨[(0,(Aa a)),(2,(Aa b)),(3,(Aa c)),(4,(Aa d))],m,100000⟩
noncomputable def Yn (c d a b:Int) (m:Mem) (R:AV→Mem→Prop) (N0:St→Prop):Prop:=
bif (decide (a<b)) then (
bif (decide ((IntKind.wrap .i64 ((IntKind.wrap .i64 (a+(IntKind.wrap .i64 (Int.tdiv (IntKind.wrap .i64 ((IntKind.wrap .i64 (b-a))+(1))) (2)))))*(IntKind.wrap .i64 (a+(IntKind.wrap .i64 (Int.tdiv (IntKind.wrap .i64 ((IntKind.wrap .i64 (b-a))+(1))) (2)))))))≤c)) then (
N0 ⟨[(0,(Aa c)),(2,(Aa d)),(3,(Aa (IntKind.wrap .i64 (a+(IntKind.wrap .i64 (Int.tdiv (IntKind.wrap .i64 ((IntKind.wrap .i64 (b-a))+(1))) (2))))))),(4,(Aa b)),(8,(Aa a)),(9,(Aa b)),(10,(Ae (decide (a<b)))),(11,(Aa a)),(12,(Aa b)),(13,(Aa a)),(14,(Aa (IntKind.wrap .i64 (b-a)))),(15,(Aa (IntKind.wrap .i64 ((IntKind.wrap .i64 (b-a))+(1))))),(16,(Aa (IntKind.wrap .i64 (Int.tdiv (IntKind.wrap .i64 ((IntKind.wrap .i64 (b-a))+(1))) (2))))),(17,(Aa (IntKind.wrap .i64 (a+(IntKind.wrap .i64 (Int.tdiv (IntKind.wrap .i64 ((IntKind.wrap .i64 (b-a))+(1))) (2))))))),(5,(Aa (IntKind.wrap .i64 (a+(IntKind.wrap .i64 (Int.tdiv (IntKind.wrap .i64 ((IntKind.wrap .i64 (b-a))+(1))) (2))))))),(18,(Aa (IntKind.wrap .i64 (a+(IntKind.wrap .i64 (Int.tdiv (IntKind.wrap .i64 ((IntKind.wrap .i64 (b-a))+(1))) (2))))))),(19,(Aa (IntKind.wrap .i64 (a+(IntKind.wrap .i64 (Int.tdiv (IntKind.wrap .i64 ((IntKind.wrap .i64 (b-a))+(1))) (2))))))),(20,(Aa (IntKind.wrap .i64 ((IntKind.wrap .i64 (a+(IntKind.wrap .i64 (Int.tdiv (IntKind.wrap .i64 ((IntKind.wrap .i64 (b-a))+(1))) (2)))))*(IntKind.wrap .i64 (a+(IntKind.wrap .i64 (Int.tdiv (IntKind.wrap .i64 ((IntKind.wrap .i64 (b-a))+(1))) (2))))))))),(21,(Aa c)),(22,(Ae (decide ((IntKind.wrap .i64 ((IntKind.wrap .i64 (a+(IntKind.wrap .i64 (Int.tdiv (IntKind.wrap .i64 ((IntKind.wrap .i64 (b-a))+(1))) (2)))))*(IntKind.wrap .i64 (a+(IntKind.wrap .i64 (Int.tdiv (IntKind.wrap .i64 ((IntKind.wrap .i64 (b-a))+(1))) (2)))))))≤c)))),(23,(Aa (IntKind.wrap .i64 (a+(IntKind.wrap .i64 (Int.tdiv (IntKind.wrap .i64 ((IntKind.wrap .i64 (b-a))+(1))) (2)))))))],m,100018⟩) else (
N0 ⟨[(0,(Aa c)),(2,(Aa d)),(3,(Aa a)),(4,(Aa (IntKind.wrap .i64 ((IntKind.wrap .i64 (a+(IntKind.wrap .i64 (Int.tdiv (IntKind.wrap .i64 ((IntKind.wrap .i64 (b-a))+(1))) (2)))))-(1))))),(8,(Aa a)),(9,(Aa b)),(10,(Ae (decide (a<b)))),(11,(Aa a)),(12,(Aa b)),(13,(Aa a)),(14,(Aa (IntKind.wrap .i64 (b-a)))),(15,(Aa (IntKind.wrap .i64 ((IntKind.wrap .i64 (b-a))+(1))))),(16,(Aa (IntKind.wrap .i64 (Int.tdiv (IntKind.wrap .i64 ((IntKind.wrap .i64 (b-a))+(1))) (2))))),(17,(Aa (IntKind.wrap .i64 (a+(IntKind.wrap .i64 (Int.tdiv (IntKind.wrap .i64 ((IntKind.wrap .i64 (b-a))+(1))) (2))))))),(5,(Aa (IntKind.wrap .i64 (a+(IntKind.wrap .i64 (Int.tdiv (IntKind.wrap .i64 ((IntKind.wrap .i64 (b-a))+(1))) (2))))))),(18,(Aa (IntKind.wrap .i64 (a+(IntKind.wrap .i64 (Int.tdiv (IntKind.wrap .i64 ((IntKind.wrap .i64 (b-a))+(1))) (2))))))),(19,(Aa (IntKind.wrap .i64 (a+(IntKind.wrap .i64 (Int.tdiv (IntKind.wrap .i64 ((IntKind.wrap .i64 (b-a))+(1))) (2))))))),(20,(Aa (IntKind.wrap .i64 ((IntKind.wrap .i64 (a+(IntKind.wrap .i64 (Int.tdiv (IntKind.wrap .i64 ((IntKind.wrap .i64 (b-a))+(1))) (2)))))*(IntKind.wrap .i64 (a+(IntKind.wrap .i64 (Int.tdiv (IntKind.wrap .i64 ((IntKind.wrap .i64 (b-a))+(1))) (2))))))))),(21,(Aa c)),(22,(Ae (decide ((IntKind.wrap .i64 ((IntKind.wrap .i64 (a+(IntKind.wrap .i64 (Int.tdiv (IntKind.wrap .i64 ((IntKind.wrap .i64 (b-a))+(1))) (2)))))*(IntKind.wrap .i64 (a+(IntKind.wrap .i64 (Int.tdiv (IntKind.wrap .i64 ((IntKind.wrap .i64 (b-a))+(1))) (2)))))))≤c)))),(24,(Aa (IntKind.wrap .i64 (a+(IntKind.wrap .i64 (Int.tdiv (IntKind.wrap .i64 ((IntKind.wrap .i64 (b-a))+(1))) (2))))))),(25,(Aa (IntKind.wrap .i64 ((IntKind.wrap .i64 (a+(IntKind.wrap .i64 (Int.tdiv (IntKind.wrap .i64 ((IntKind.wrap .i64 (b-a))+(1))) (2)))))-(1)))))],m,100019⟩)) else (
A8 R m [some (Aa a)])
theorem tJ (a b c d:Int) (m:Mem) (R:AV→Mem→Prop) (N0:St→Prop):W pg KK 27 0 bU (R4 a b c d m) (Adm R N0)=Yn a b c d m R N0:=by kernel_rfl
theorem Aju (R:AV→Mem→Prop) {σ:Type} (I:σ→Prop) (a b c d:σ→Int) (m:σ→Mem) (μ:σ→Nat) (step:∀x,I x→Yn (a x) (b x) (c x) (d x) (m x) R (fun s'=>∃y,I y∧μ y<μ x∧Bb KK 27 0 s' (R4 (a y) (b y) (c y) (d y) (m y)))) (x:σ) (hx:I x) {s:St} (hw:Bb KK 27 0 s (R4 (a x) (b x) (c x) (d x) (m x))):Bu pg KK 27 0 (.loop bU) s (Z6 R):=
 Bu.Eh hw (Bu.loops Dl I (fun x=>R4 (a x) (b x) (c x) (d x) (m x)) μ (fun x hx=>(tJ (a x) (b x) (c x) (d x) (m x) R _).mpr (step x hx)) x hx)
noncomputable def Ac1 (a:Int) (R:AV→Mem→Prop):Prop:=
bif (decide (a≤(0))) then (
A8 R [] [some (Aa (0))]) else (
Bu pg KK 27 0 (.loop bU) ⟨[(0,(Aa a)),(2,(Aa (0))),(6,(Aa a)),(7,(Ae (decide (a≤(0))))),(3,(Aa (0))),(4,(Aa (3037000499)))],[],5⟩ (Z6 R))
theorem Aa5 (a:Int) (R:AV→Mem→Prop) (h:Ac1 a R):Own pg KK.gl 281 [Aa a] R:=Bc Dl Tryz.func281 (code:=Ajw) Bf Bf Bf (X:=Ac1 a R) Bf h
noncomputable def Aoc:Code:=((Tryz.f222).body).getD .skip
noncomputable def Aqs (R:AV→Mem→Prop):A4→St→Prop:=Cr pg Tryz.f222 R
noncomputable def Afy (b c d e:Int) (R:AV→Mem→Prop):Prop:=
Bj pg KK.gl ((1,some ⟨[Aa d,Aa e],51⟩)::(0,some ⟨[Aa b,Aa c],51⟩)::[]) 280 [AV.agg [Aa b,Aa c],AV.agg [Aa d,Aa e]] fun g=>
Af g fun f=>
Bj pg KK.gl ((1,some ⟨[Aa d,Aa e],51⟩)::(0,some ⟨[Aa b,Aa c],51⟩)::[]) 281 [Aa f] fun h=>
Af h fun a=>
bif (decide ((IntKind.wrap .i64 (a*a))<f)) then (
A8 R ((1,some ⟨[Aa d,Aa e],51⟩)::(0,some ⟨[Aa b,Aa c],51⟩)::[]) [some (Aa a),some (Aa (IntKind.wrap .i64 (a+(1))))]) else (
A8 R ((1,some ⟨[Aa d,Aa e],51⟩)::(0,some ⟨[Aa b,Aa c],51⟩)::[]) [some (Aa a),some (Aa a)])
theorem Aad (a b c d:Int) (R:AV→Mem→Prop) (h:Afy a b c d R):Own pg KK.gl 222 [AV.agg [Aa a,Aa b],AV.agg [Aa c,Aa d]] R:=Bc Dl Tryz.func222 (code:=Aoc) Bf Bf Bf (X:=Afy a b c d R) Bf h
noncomputable def Ap2:Code:=((Tryz.f224).body).getD .skip
noncomputable def Ase (R:AV→Mem→Prop):A4→St→Prop:=Cr pg Tryz.f224 R
noncomputable def Adq (m c d a e f n g h b i j k l:Int) (R:AV→Mem→Prop):Prop:=
Bj pg KK.gl ((2,some ⟨[Aa k,Aa l],92⟩)::(1,some ⟨[Aa n,Aa g,Aa h,Aa b,Aa i,Aa j],55⟩)::(0,some ⟨[Aa m,Aa c,Aa d,Aa a,Aa e,Aa f],55⟩)::[]) 222 [AV.agg [Aa c,Aa d],AV.agg [Aa g,Aa h]] fun o=>
H5 o fun p q=>
Af p fun r=>
Af q fun u=>
bif (decide ((IntKind.wrap .i64 ((IntKind.wrap .i64 (r-e))-i))≥k)) then (
A8 R ((2,some ⟨[Aa k,Aa l],92⟩)::(1,some ⟨[Aa n,Aa g,Aa h,Aa b,Aa i,Aa j],55⟩)::(0,some ⟨[Aa m,Aa c,Aa d,Aa a,Aa e,Aa f],55⟩)::[]) [some (Ae true)]) else (
Bg (Cv pg (.call ⟨.builtin .max,#[.tmp 0,.tmp 1],#[3,3]⟩) 3 [Aa (IntKind.wrap .i64 (a-b)),Aa (IntKind.wrap .i64 (b-a))] (Ao ((2,some ⟨[Aa k,Aa l],92⟩)::(1,some ⟨[Aa n,Aa g,Aa h,Aa b,Aa i,Aa j],55⟩)::(0,some ⟨[Aa m,Aa c,Aa d,Aa a,Aa e,Aa f],55⟩)::[])) 104) fun s=>
Af s fun t=>
A8 R ((2,some ⟨[Aa k,Aa l],92⟩)::(1,some ⟨[Aa n,Aa g,Aa h,Aa b,Aa i,Aa j],55⟩)::(0,some ⟨[Aa m,Aa c,Aa d,Aa a,Aa e,Aa f],55⟩)::[]) [some (Ae (decide ((IntKind.wrap .i64 ((IntKind.wrap .i64 (t-f))-j))≥l)))])
theorem zR (a b c d e f g i j k l m n o:Int) (R:AV→Mem→Prop) (h:Adq a b c d e f g i j k l m n o R):Own pg KK.gl 224 [AV.agg [Aa a,Aa b,Aa c,Aa d,Aa e,Aa f],AV.agg [Aa g,Aa i,Aa j,Aa k,Aa l,Aa m],AV.agg [Aa n,Aa o]] R:=Bc Dl Tryz.func224 (code:=Ap2) Bf Bf Bf (X:=Adq a b c d e f g i j k l m n o R) Bf h
noncomputable def Ald:Code:=((Tryz.f165).body).getD .skip
noncomputable def Aob (R:AV→Mem→Prop):A4→St→Prop:=Cr pg Tryz.f165 R
noncomputable def bL:Code:=C0 Ald 0
noncomputable def aD (R:AV→Mem→Prop):A4→St→Prop:=Cy pg KK 73 0 Ald 0 (Aob R)
noncomputable def Aba (R:AV→Mem→Prop) (N0:St→Prop):A4→St→Prop:=Cz N0 (aD R)
def Rf (a b c d:AV) (e f g h:Int) (m:Mem):St:=⟨[(0,a),(1,b),(5,(AV.ptr 0 0)),(6,c),(7,d),(9,(Aa e)),(10,(Aa f))],((0,some ⟨[Aa g,Aa h],92⟩)::m),100000⟩
noncomputable def Zl (v w z p:AV) (u a s t:Int) (m:Mem) (R:AV→Mem→Prop) (N0:St→Prop):Prop:=
bif (decide (a≤u)) then (
Bj pg KK.gl ((0,some ⟨[Aa s,Aa t],92⟩)::m) 15 [v,Aa a] fun v5=>
H5 v5 fun c6 c7=>
Th c6 fun c8 c9 Jt Em Hu Ll=>
Af c8 fun b=>
Af c9 fun c=>
Af Jt fun d=>
Af Em fun e=>
Af Hu fun f=>
Af Ll fun g=>
Af c7 fun q=>
Bj pg KK.gl ((100072,some ⟨[Aa b,Aa c,Aa d,Aa e,Aa f,Aa g],55⟩)::(100072,some ⟨[Aa (0),Aa (0),Aa (0),Aa (0),Aa (0),Aa (0)],55⟩)::(0,some ⟨[Aa s,Aa t],92⟩)::m) 15 [w,Aa a] fun ao=>
H5 ao fun ap aq=>
Th ap fun ar au av aw c28 ax=>
Af ar fun h=>
Af au fun i=>
Af av fun j=>
Af aw fun k=>
Af c28 fun l=>
Af ax fun n=>
Af aq fun r=>
Bj pg KK.gl ((100144,some ⟨[Aa h,Aa i,Aa j,Aa k,Aa l,Aa n],55⟩)::(100144,some ⟨[Aa (0),Aa (0),Aa (0),Aa (0),Aa (0),Aa (0)],55⟩)::(100072,some ⟨[Aa b,Aa c,Aa d,Aa e,Aa f,Aa g],55⟩)::(100072,some ⟨[Aa (0),Aa (0),Aa (0),Aa (0),Aa (0),Aa (0)],55⟩)::(0,some ⟨[Aa s,Aa t],92⟩)::m) 224 [AV.agg [Aa b,Aa c,Aa d,Aa e,Aa f,Aa g],AV.agg [Aa h,Aa i,Aa j,Aa k,Aa l,Aa n],AV.agg [Aa s,Aa t]] fun ay=>
Iv ay fun y=>
bif y then (
N0 ⟨[(0,v),(1,w),(5,(AV.ptr 0 0)),(6,z),(7,p),(9,(Aa u)),(10,(Aa (IntKind.wrap .i64 (a+(1))))),(23,(Aa a)),(24,(Aa u)),(25,(Ae (decide (a≤u)))),(29,v),(30,(Aa a)),(31,(AV.Bn [AV.agg [Aa b,Aa c,Aa d,Aa e,Aa f,Aa g],Aa q])),(28,(AV.Bn [AV.agg [Aa b,Aa c,Aa d,Aa e,Aa f,Aa g],Aa q])),(32,(AV.agg [Aa b,Aa c,Aa d,Aa e,Aa f,Aa g])),(33,(Aa q)),(11,(AV.ptr 100072 0)),(12,(Aa q)),(35,w),(36,(Aa a)),(37,(AV.Bn [AV.agg [Aa h,Aa i,Aa j,Aa k,Aa l,Aa n],Aa r])),(34,(AV.Bn [AV.agg [Aa h,Aa i,Aa j,Aa k,Aa l,Aa n],Aa r])),(38,(AV.agg [Aa h,Aa i,Aa j,Aa k,Aa l,Aa n])),(39,(Aa r)),(13,(AV.ptr 100144 0)),(14,(Aa r)),(40,(AV.agg [Aa b,Aa c,Aa d,Aa e,Aa f,Aa g])),(41,(AV.agg [Aa h,Aa i,Aa j,Aa k,Aa l,Aa n])),(42,(AV.agg [Aa s,Aa t])),(43,(Ae y)),(26,(Aa a)),(27,(Aa (IntKind.wrap .i64 (a+(1)))))],((100144,some ⟨[Aa h,Aa i,Aa j,Aa k,Aa l,Aa n],55⟩)::(100144,some ⟨[Aa (0),Aa (0),Aa (0),Aa (0),Aa (0),Aa (0)],55⟩)::(100072,some ⟨[Aa b,Aa c,Aa d,Aa e,Aa f,Aa g],55⟩)::(100072,some ⟨[Aa (0),Aa (0),Aa (0),Aa (0),Aa (0),Aa (0)],55⟩)::(0,some ⟨[Aa s,Aa t],92⟩)::m),100217⟩) else (
Bg (Cn p) fun az=>
Af az fun o=>
bif (decide (o>(0))) then (
Bg (Cw 2 p (Aa (IntKind.wrap .i64 (o-(1))))) fun aa=>
Bg (Iz 1 aa) fun ab=>
Bg (Ff (Ao ((100144,some ⟨[Aa h,Aa i,Aa j,Aa k,Aa l,Aa n],55⟩)::(100144,some ⟨[Aa (0),Aa (0),Aa (0),Aa (0),Aa (0),Aa (0)],55⟩)::(100072,some ⟨[Aa b,Aa c,Aa d,Aa e,Aa f,Aa g],55⟩)::(100072,some ⟨[Aa (0),Aa (0),Aa (0),Aa (0),Aa (0),Aa (0)],55⟩)::(0,some ⟨[Aa s,Aa t],92⟩)::m)) ab) fun ba=>
Af ba fun x=>
bif (x==a) then (
Bg (Cw 2 p (Aa (IntKind.wrap .i64 (o-(1))))) fun ad=>
Bg (Iz 1 ad) fun ae=>
C4 pg (Ao ((100144,some ⟨[Aa h,Aa i,Aa j,Aa k,Aa l,Aa n],55⟩)::(100144,some ⟨[Aa (0),Aa (0),Aa (0),Aa (0),Aa (0),Aa (0)],55⟩)::(100072,some ⟨[Aa b,Aa c,Aa d,Aa e,Aa f,Aa g],55⟩)::(100072,some ⟨[Aa (0),Aa (0),Aa (0),Aa (0),Aa (0),Aa (0)],55⟩)::(0,some ⟨[Aa s,Aa t],92⟩)::m)) 3 ae (Aa (IntKind.wrap .i64 (a+(1)))) fun bd d47=>
N0 ⟨[(0,v),(1,w),(5,(AV.ptr 0 0)),(6,z),(7,p),(9,(Aa u)),(10,(Aa (IntKind.wrap .i64 (a+(1))))),(23,(Aa a)),(24,(Aa u)),(25,(Ae (decide (a≤u)))),(29,v),(30,(Aa a)),(31,(AV.Bn [AV.agg [Aa b,Aa c,Aa d,Aa e,Aa f,Aa g],Aa q])),(28,(AV.Bn [AV.agg [Aa b,Aa c,Aa d,Aa e,Aa f,Aa g],Aa q])),(32,(AV.agg [Aa b,Aa c,Aa d,Aa e,Aa f,Aa g])),(33,(Aa q)),(11,(AV.ptr 100072 0)),(12,(Aa q)),(35,w),(36,(Aa a)),(37,(AV.Bn [AV.agg [Aa h,Aa i,Aa j,Aa k,Aa l,Aa n],Aa r])),(34,(AV.Bn [AV.agg [Aa h,Aa i,Aa j,Aa k,Aa l,Aa n],Aa r])),(38,(AV.agg [Aa h,Aa i,Aa j,Aa k,Aa l,Aa n])),(39,(Aa r)),(13,(AV.ptr 100144 0)),(14,(Aa r)),(40,(AV.agg [Aa b,Aa c,Aa d,Aa e,Aa f,Aa g])),(41,(AV.agg [Aa h,Aa i,Aa j,Aa k,Aa l,Aa n])),(42,(AV.agg [Aa s,Aa t])),(43,(Ae y)),(44,p),(45,(Aa o)),(15,(Aa o)),(46,(Aa o)),(47,(Ae (decide (o>(0))))),(48,(Ae true)),(49,p),(50,(Aa o)),(51,(Aa (IntKind.wrap .i64 (o-(1))))),(52,aa),(53,ab),(54,(Aa x)),(55,(Aa a)),(56,(Ae (x==a))),(57,(Ae (x==a))),(58,p),(59,(Aa o)),(60,(Aa (IntKind.wrap .i64 (o-(1))))),(61,(Aa a)),(62,(Aa (IntKind.wrap .i64 (a+(1))))),(63,ad),(64,ae),(26,(Aa a)),(27,(Aa (IntKind.wrap .i64 (a+(1)))))],Ac ((100144,some ⟨[Aa h,Aa i,Aa j,Aa k,Aa l,Aa n],55⟩)::(100144,some ⟨[Aa (0),Aa (0),Aa (0),Aa (0),Aa (0),Aa (0)],55⟩)::(100072,some ⟨[Aa b,Aa c,Aa d,Aa e,Aa f,Aa g],55⟩)::(100072,some ⟨[Aa (0),Aa (0),Aa (0),Aa (0),Aa (0),Aa (0)],55⟩)::(0,some ⟨[Aa s,Aa t],92⟩)::m) d47,100240⟩) else (
Bg (b9 [Aa (0),Aa (0)] [(0,1),(1,1)] [(0,(Aa a)),(1,(Aa (IntKind.wrap .i64 (a+(1)))))]) fun af=>
Ia (kT 100234 100 2 1 [Aa (0),Aa (0)] [(0,af)]) ((100144,some ⟨[Aa h,Aa i,Aa j,Aa k,Aa l,Aa n],55⟩)::(100144,some ⟨[Aa (0),Aa (0),Aa (0),Aa (0),Aa (0),Aa (0)],55⟩)::(100072,some ⟨[Aa b,Aa c,Aa d,Aa e,Aa f,Aa g],55⟩)::(100072,some ⟨[Aa (0),Aa (0),Aa (0),Aa (0),Aa (0),Aa (0)],55⟩)::(0,some ⟨[Aa s,Aa t],92⟩)::m) fun ag ah=>
Ia (app (Ao ah) 100 2 16 [Aa (0),Aa (0)] 100235 p ag) ah fun ai bb=>
N0 ⟨[(0,v),(1,w),(5,(AV.ptr 0 0)),(6,z),(7,ai),(9,(Aa u)),(10,(Aa (IntKind.wrap .i64 (a+(1))))),(23,(Aa a)),(24,(Aa u)),(25,(Ae (decide (a≤u)))),(29,v),(30,(Aa a)),(31,(AV.Bn [AV.agg [Aa b,Aa c,Aa d,Aa e,Aa f,Aa g],Aa q])),(28,(AV.Bn [AV.agg [Aa b,Aa c,Aa d,Aa e,Aa f,Aa g],Aa q])),(32,(AV.agg [Aa b,Aa c,Aa d,Aa e,Aa f,Aa g])),(33,(Aa q)),(11,(AV.ptr 100072 0)),(12,(Aa q)),(35,w),(36,(Aa a)),(37,(AV.Bn [AV.agg [Aa h,Aa i,Aa j,Aa k,Aa l,Aa n],Aa r])),(34,(AV.Bn [AV.agg [Aa h,Aa i,Aa j,Aa k,Aa l,Aa n],Aa r])),(38,(AV.agg [Aa h,Aa i,Aa j,Aa k,Aa l,Aa n])),(39,(Aa r)),(13,(AV.ptr 100144 0)),(14,(Aa r)),(40,(AV.agg [Aa b,Aa c,Aa d,Aa e,Aa f,Aa g])),(41,(AV.agg [Aa h,Aa i,Aa j,Aa k,Aa l,Aa n])),(42,(AV.agg [Aa s,Aa t])),(43,(Ae y)),(44,p),(45,(Aa o)),(15,(Aa o)),(46,(Aa o)),(47,(Ae (decide (o>(0))))),(48,(Ae true)),(49,p),(50,(Aa o)),(51,(Aa (IntKind.wrap .i64 (o-(1))))),(52,aa),(53,ab),(54,(Aa x)),(55,(Aa a)),(56,(Ae (x==a))),(57,(Ae (x==a))),(65,p),(66,(Aa a)),(67,(Aa a)),(68,(Aa (IntKind.wrap .i64 (a+(1))))),(69,af),(70,ag),(71,ai),(26,(Aa a)),(27,(Aa (IntKind.wrap .i64 (a+(1)))))],bb,100240⟩)) else (
Bg (b9 [Aa (0),Aa (0)] [(0,1),(1,1)] [(0,(Aa a)),(1,(Aa (IntKind.wrap .i64 (a+(1)))))]) fun aj=>
Ia (kT 100226 100 2 1 [Aa (0),Aa (0)] [(0,aj)]) ((100144,some ⟨[Aa h,Aa i,Aa j,Aa k,Aa l,Aa n],55⟩)::(100144,some ⟨[Aa (0),Aa (0),Aa (0),Aa (0),Aa (0),Aa (0)],55⟩)::(100072,some ⟨[Aa b,Aa c,Aa d,Aa e,Aa f,Aa g],55⟩)::(100072,some ⟨[Aa (0),Aa (0),Aa (0),Aa (0),Aa (0),Aa (0)],55⟩)::(0,some ⟨[Aa s,Aa t],92⟩)::m) fun ak am=>
Ia (app (Ao am) 100 2 16 [Aa (0),Aa (0)] 100227 p ak) am fun an bc=>
N0 ⟨[(0,v),(1,w),(5,(AV.ptr 0 0)),(6,z),(7,an),(9,(Aa u)),(10,(Aa (IntKind.wrap .i64 (a+(1))))),(23,(Aa a)),(24,(Aa u)),(25,(Ae (decide (a≤u)))),(29,v),(30,(Aa a)),(31,(AV.Bn [AV.agg [Aa b,Aa c,Aa d,Aa e,Aa f,Aa g],Aa q])),(28,(AV.Bn [AV.agg [Aa b,Aa c,Aa d,Aa e,Aa f,Aa g],Aa q])),(32,(AV.agg [Aa b,Aa c,Aa d,Aa e,Aa f,Aa g])),(33,(Aa q)),(11,(AV.ptr 100072 0)),(12,(Aa q)),(35,w),(36,(Aa a)),(37,(AV.Bn [AV.agg [Aa h,Aa i,Aa j,Aa k,Aa l,Aa n],Aa r])),(34,(AV.Bn [AV.agg [Aa h,Aa i,Aa j,Aa k,Aa l,Aa n],Aa r])),(38,(AV.agg [Aa h,Aa i,Aa j,Aa k,Aa l,Aa n])),(39,(Aa r)),(13,(AV.ptr 100144 0)),(14,(Aa r)),(40,(AV.agg [Aa b,Aa c,Aa d,Aa e,Aa f,Aa g])),(41,(AV.agg [Aa h,Aa i,Aa j,Aa k,Aa l,Aa n])),(42,(AV.agg [Aa s,Aa t])),(43,(Ae y)),(44,p),(45,(Aa o)),(15,(Aa o)),(46,(Aa o)),(47,(Ae (decide (o>(0))))),(48,(Ae false)),(49,(AV.Bn [])),(50,(AV.Bn [])),(51,(AV.Bn [])),(52,(AV.Bn [])),(53,(AV.Bn [])),(54,(AV.Bn [])),(55,(AV.Bn [])),(56,(AV.Bn [])),(57,(Ae false)),(65,p),(66,(Aa a)),(67,(Aa a)),(68,(Aa (IntKind.wrap .i64 (a+(1))))),(69,aj),(70,ak),(71,an),(26,(Aa a)),(27,(Aa (IntKind.wrap .i64 (a+(1)))))],bc,100232⟩))) else (
A8 R ((0,some ⟨[Aa s,Aa t],92⟩)::m) [some p])
theorem rZ (a b c d:AV) (e f g h:Int) (m:Mem) (R:AV→Mem→Prop) (N0:St→Prop):W pg KK 73 0 bL (Rf a b c d e f g h m) (Aba R N0)=Zl a b c d e f g h m R N0:=by kernel_rfl
theorem Ajr (R:AV→Mem→Prop) {σ:Type} (I:σ→Prop) (a b c d:σ→AV) (e f g h:σ→Int) (m:σ→Mem) (μ:σ→Nat) (step:∀x,I x→Zl (a x) (b x) (c x) (d x) (e x) (f x) (g x) (h x) (m x) R (fun s'=>∃y,I y∧μ y<μ x∧Bb KK 73 0 s' (Rf (a y) (b y) (c y) (d y) (e y) (f y) (g y) (h y) (m y)))) (x:σ) (hx:I x) {s:St} (hw:Bb KK 73 0 s (Rf (a x) (b x) (c x) (d x) (e x) (f x) (g x) (h x) (m x))):Bu pg KK 73 0 (.loop bL) s (aD R):=
 Bu.Eh hw (Bu.loops Dl I (fun x=>Rf (a x) (b x) (c x) (d x) (e x) (f x) (g x) (h x) (m x)) μ (fun x hx=>(rZ (a x) (b x) (c x) (d x) (e x) (f x) (g x) (h x) (m x) R _).mpr (step x hx)) x hx)
noncomputable def Adg (c d:AV) (e f:Int) (R:AV→Mem→Prop):Prop:=
Bj pg KK.gl ((0,some ⟨[Aa e,Aa f],92⟩)::[]) 223 [c,d] fun g=>
H5 g fun h i=>
Af h fun a=>
Af i fun b=>
Bu pg KK 73 0 (.loop bL) ⟨[(0,c),(1,d),(2,(AV.agg [Aa e,Aa f])),(5,(AV.ptr 0 0)),(6,AV.Bp),(7,AV.Bp),(17,c),(18,d),(19,(AV.Bn [Aa a,Aa b])),(16,(AV.Bn [Aa a,Aa b])),(20,(Aa a)),(21,(Aa b)),(8,(Aa a)),(9,(Aa b)),(22,(Aa a)),(10,(Aa a))],((0,some ⟨[Aa e,Aa f],92⟩)::[]),76⟩ (aD R)
theorem uH (a b:AV) (c d:Int) (R:AV→Mem→Prop) (h:Adg a b c d R):Own pg KK.gl 165 [a,b,AV.agg [Aa c,Aa d]] R:=Bc Dl Tryz.func165 (code:=Ald) Bf Bf Bf (X:=Adg a b c d R) Bf h
noncomputable def c83:Code:=((Tryz.f83).body).getD .skip
noncomputable def q83 (R:AV→Mem→Prop):A4→St→Prop:=Cr pg Tryz.f83 R
noncomputable def F83 (b c:AV) (d e:Int) (R:AV→Mem→Prop):Prop:=
Ia (kT 6 49 1 2 [AV.Bp] [(0,b),(1,c)]) ((0,some ⟨[Aa d,Aa e],92⟩)::[]) fun g a=>
Bj pg KK.gl a 164 [AV.agg [Aa d,Aa e],g] fun h=>
Af h fun f=>
bif (f !=(0)) then (
A8 R a [some AV.Bp,some (Aa f)]) else (
Bg (F2 (Ao a) 2 (AV.ptr 0 0)) fun i=>
Da i fun j c5=>
Af j fun k=>
Af c5 fun l=>
Bj pg KK.gl a 165 [b,c,AV.agg [Aa k,Aa l]] fun m=>
A8 R a [some m,some (Aa (0))])
theorem Abi (a b:AV) (c d:Int) (R:AV→Mem→Prop) (h:F83 a b c d R):Own pg KK.gl 83 [a,b,AV.agg [Aa c,Aa d]] R:=Bc Dl Tryz.func83 (code:=c83) Bf Bf Bf (X:=F83 a b c d R) Bf h
noncomputable def c28:Code:=((Tryz.f28).body).getD .skip
noncomputable def q28 (R:AV→Mem→Prop):A4→St→Prop:=Cr pg Tryz.f28 R
noncomputable def F28 (e f:AV) (a b:Int) (R:AV→Mem→Prop):Prop:=
Bj pg KK.gl ((0,some ⟨[Aa a,Aa b],92⟩)::[]) 83 [e,f,AV.agg [Aa a,Aa b]] fun g=>
H5 g fun c h=>
Af h fun d=>
bif (d !=(0)) then (
A8 R ((0,some ⟨[Aa a,Aa b],92⟩)::[]) [some (Aa (0)),some (Aa d)]) else (
Bg (Cn c) fun i=>
Af i fun j=>
bif (j==(0)) then (
A8 R ((0,some ⟨[Aa a,Aa b],92⟩)::[]) [some (Aa (0)),some (Aa (8))]) else (
Bg (Cw 2 c (Aa (0))) fun k=>
Bg (Iz 0 k) fun l=>
Bg (Ff (Ao ((0,some ⟨[Aa a,Aa b],92⟩)::[])) l) fun m=>
Af m fun n=>
A8 R ((0,some ⟨[Aa a,Aa b],92⟩)::[]) [some (Aa n),some (Aa (0))]))
theorem Agr (a b:AV) (c d:Int) (R:AV→Mem→Prop) (h:F28 a b c d R):Own pg KK.gl 28 [a,b,AV.agg [Aa c,Aa d]] R:=Bc Dl Tryz.func28 (code:=c28) Bf Bf Bf (X:=F28 a b c d R) Bf h
noncomputable def c95:Code:=((Tryz.f95).body).getD .skip
noncomputable def q95 (R:AV→Mem→Prop):A4→St→Prop:=Cr pg Tryz.f95 R
noncomputable def Xd:Code:=C0 c95 0
noncomputable def mX (R:AV→Mem→Prop):A4→St→Prop:=Cy pg KK 55 0 c95 0 (q95 R)
noncomputable def wY (R:AV→Mem→Prop) (N0:St→Prop):A4→St→Prop:=Cz N0 (mX R)
def S0 (a b c d e f g h i j k l n o p q r s t u v w x y z aa ab ad ae af ag ah ai aj:Int) (m:Mem):St:=⟨[(1,(AV.ptr 0 0)),(2,(Aa a)),(10,(AV.agg [Aa b,Aa c,Aa d,Aa e,Aa f,Aa g,Aa h,Aa i,Aa j,Aa k,Aa l,Aa n,Aa o,Aa p,Aa q,Aa r])),(11,(Aa s))],((0,some ⟨[Aa t,Aa u,Aa v,Aa w,Aa x,Aa y,Aa z,Aa aa,Aa ab,Aa ad,Aa ae,Aa af,Aa ag,Aa ah,Aa ai,Aa aj],111⟩)::m),100000⟩
noncomputable def Tr:Code:=C0 Xd 0
noncomputable def Tl (R:AV→Mem→Prop) (N0:St→Prop):A4→St→Prop:=Cy pg KK 55 0 Xd 0 (wY R N0)
noncomputable def vA (R:AV→Mem→Prop) (N0 N1:St→Prop):A4→St→Prop:=Cz N1 (Tl R N0)
def Nd (a b c d e f g h i j k l n o p q r s t u v w x y z aa ab ad ae af ag ah ai aj ak am an ao ap:Int) (m:Mem):St:=⟨[(1,(AV.ptr 0 0)),(2,(Aa a)),(10,(AV.agg [Aa b,Aa c,Aa d,Aa e,Aa f,Aa g,Aa h,Aa i,Aa j,Aa k,Aa l,Aa n,Aa o,Aa p,Aa q,Aa r])),(11,(Aa s)),(14,(AV.agg [Aa t,Aa u,Aa v,Aa w])),(15,(Aa x))],((0,some ⟨[Aa y,Aa z,Aa aa,Aa ab,Aa ad,Aa ae,Aa af,Aa ag,Aa ah,Aa ai,Aa aj,Aa ak,Aa am,Aa an,Aa ao,Aa ap],111⟩)::m),200000⟩
noncomputable def Xa:Code:=C0 c95 1
noncomputable def kO (R:AV→Mem→Prop):A4→St→Prop:=Cy pg KK 55 0 c95 1 (q95 R)
noncomputable def uZ (R:AV→Mem→Prop) (N0:St→Prop):A4→St→Prop:=Cz N0 (kO R)
def Ny (a b c d e f g h i j k l n o p q r s:Int) (m:Mem):St:=⟨[(1,(AV.ptr 0 0)),(2,(Aa a)),(26,(Aa b))],((0,some ⟨[Aa c,Aa d,Aa e,Aa f,Aa g,Aa h,Aa i,Aa j,Aa k,Aa l,Aa n,Aa o,Aa p,Aa q,Aa r,Aa s],111⟩)::m),200000⟩
noncomputable def Mw:Code:=C0 Xa 0
noncomputable def Tm (R:AV→Mem→Prop) (N0:St→Prop):A4→St→Prop:=Cy pg KK 55 0 Xa 0 (uZ R N0)
noncomputable def cD (R:AV→Mem→Prop) (N0 N1:St→Prop):A4→St→Prop:=Cz N1 (Tm R N0)
def Jq (a b c d e f g h i j k l n o p q r s t u:Int) (m:Mem):St:=⟨[(1,(AV.ptr 0 0)),(2,(Aa a)),(7,(Aa b)),(26,(Aa c)),(29,(Aa d))],((0,some ⟨[Aa e,Aa f,Aa g,Aa h,Aa i,Aa j,Aa k,Aa l,Aa n,Aa o,Aa p,Aa q,Aa r,Aa s,Aa t,Aa u],111⟩)::m),300000⟩
noncomputable def Mz:Code:=C0 Mw 0
noncomputable def Mv (R:AV→Mem→Prop) (N0 N1:St→Prop):A4→St→Prop:=Cy pg KK 55 0 Mw 0 (cD R N0 N1)
noncomputable def jB (R:AV→Mem→Prop) (N0 N1 N2:St→Prop):A4→St→Prop:=Cz N2 (Mv R N0 N1)
def Ik (a b c d e f g h i j k l n o p q r s t u v w:Int) (m:Mem):St:=⟨[(1,(AV.ptr 0 0)),(2,(Aa a)),(7,(Aa b)),(8,(Aa c)),(26,(Aa d)),(29,(Aa e)),(32,(Aa f))],((0,some ⟨[Aa g,Aa h,Aa i,Aa j,Aa k,Aa l,Aa n,Aa o,Aa p,Aa q,Aa r,Aa s,Aa t,Aa u,Aa v,Aa w],111⟩)::m),400000⟩
noncomputable def kY (t2 b c d e f g h i j k l n o p q r a s t u v w x y z aa ab ad ae af ag ah ai:Int) (m:Mem) (R:AV→Mem→Prop) (N0:St→Prop):Prop:=
bif (decide (a<(4))) then (
Bg (Cv pg (.index 111 (.tmp 0) (.tmp 1)) 109 [AV.agg [Aa b,Aa c,Aa d,Aa e,Aa f,Aa g,Aa h,Aa i,Aa j,Aa k,Aa l,Aa n,Aa o,Aa p,Aa q,Aa r],Aa a] (Ao ((0,some ⟨[Aa s,Aa t,Aa u,Aa v,Aa w,Aa x,Aa y,Aa z,Aa aa,Aa ab,Aa ad,Aa ae,Aa af,Aa ag,Aa ah,Aa ai],111⟩)::m)) 100001) fun v0=>
Alq v0 fun c1 c2 c3 c4=>
Af c1 fun z5=>
Af c2 fun z6=>
Af c3 fun z7=>
Af c4 fun z8=>
Bu pg KK 55 0 (.loop Tr) ⟨[(1,(AV.ptr 0 0)),(2,(Aa t2)),(10,(AV.agg [Aa b,Aa c,Aa d,Aa e,Aa f,Aa g,Aa h,Aa i,Aa j,Aa k,Aa l,Aa n,Aa o,Aa p,Aa q,Aa r])),(11,(Aa a)),(12,(Ae (decide (a<(4))))),(13,(AV.agg [Aa z5,Aa z6,Aa z7,Aa z8])),(4,(AV.ptr 100002 0)),(14,(AV.agg [Aa z5,Aa z6,Aa z7,Aa z8])),(15,(Aa (0)))],((100002,some ⟨[Aa z5,Aa z6,Aa z7,Aa z8],109⟩)::(100002,some ⟨[Aa (0),Aa (0),Aa (0),Aa (0)],109⟩)::(0,some ⟨[Aa s,Aa t,Aa u,Aa v,Aa w,Aa x,Aa y,Aa z,Aa aa,Aa ab,Aa ad,Aa ae,Aa af,Aa ag,Aa ah,Aa ai],111⟩)::m),100006⟩ (Tl R N0)) else (
Bu pg KK 55 0 (.loop Xa) ⟨[(1,(AV.ptr 0 0)),(2,(Aa t2)),(10,(AV.agg [Aa b,Aa c,Aa d,Aa e,Aa f,Aa g,Aa h,Aa i,Aa j,Aa k,Aa l,Aa n,Aa o,Aa p,Aa q,Aa r])),(11,(Aa a)),(12,(Ae (decide (a<(4))))),(26,(Aa (0)))],((0,some ⟨[Aa s,Aa t,Aa u,Aa v,Aa w,Aa x,Aa y,Aa z,Aa aa,Aa ab,Aa ad,Aa ae,Aa af,Aa ag,Aa ah,Aa ai],111⟩)::m),100002⟩ (kO R))
theorem xC (a b c d e f g h i j k l n o p q r s t u v w x y z aa ab ad ae af ag ah ai aj:Int) (m:Mem) (R:AV→Mem→Prop) (N0:St→Prop):W pg KK 55 0 Xd (S0 a b c d e f g h i j k l n o p q r s t u v w x y z aa ab ad ae af ag ah ai aj m) (wY R N0)=kY a b c d e f g h i j k l n o p q r s t u v w x y z aa ab ad ae af ag ah ai aj m R N0:=by kernel_rfl
theorem Al7 (R:AV→Mem→Prop) {σ:Type} (I:σ→Prop) (a b c d e f g h i j k l n o p q r t u v w z aa ab ad ae af ag ah ai aj ak am an:σ→Int) (m:σ→Mem) (μ:σ→Nat) (step:∀x,I x→kY (a x) (b x) (c x) (d x) (e x) (f x) (g x) (h x) (i x) (j x) (k x) (l x) (n x) (o x) (p x) (q x) (r x) (t x) (u x) (v x) (w x) (z x) (aa x) (ab x) (ad x) (ae x) (af x) (ag x) (ah x) (ai x) (aj x) (ak x) (am x) (an x) (m x) R (fun s'=>∃y,I y∧μ y<μ x∧Bb KK 55 0 s' (S0 (a y) (b y) (c y) (d y) (e y) (f y) (g y) (h y) (i y) (j y) (k y) (l y) (n y) (o y) (p y) (q y) (r y) (t y) (u y) (v y) (w y) (z y) (aa y) (ab y) (ad y) (ae y) (af y) (ag y) (ah y) (ai y) (aj y) (ak y) (am y) (an y) (m y)))) (x:σ) (hx:I x) {s:St} (hw:Bb KK 55 0 s (S0 (a x) (b x) (c x) (d x) (e x) (f x) (g x) (h x) (i x) (j x) (k x) (l x) (n x) (o x) (p x) (q x) (r x) (t x) (u x) (v x) (w x) (z x) (aa x) (ab x) (ad x) (ae x) (af x) (ag x) (ah x) (ai x) (aj x) (ak x) (am x) (an x) (m x))):Bu pg KK 55 0 (.loop Xd) s (mX R):=
 Bu.Eh hw (Bu.loops Dl I (fun x=>S0 (a x) (b x) (c x) (d x) (e x) (f x) (g x) (h x) (i x) (j x) (k x) (l x) (n x) (o x) (p x) (q x) (r x) (t x) (u x) (v x) (w x) (z x) (aa x) (ab x) (ad x) (ae x) (af x) (ag x) (ah x) (ai x) (aj x) (ak x) (am x) (an x) (m x)) μ (fun x hx=>(xC (a x) (b x) (c x) (d x) (e x) (f x) (g x) (h x) (i x) (j x) (k x) (l x) (n x) (o x) (p x) (q x) (r x) (t x) (u x) (v x) (w x) (z x) (aa x) (ab x) (ad x) (ae x) (af x) (ag x) (ah x) (ai x) (aj x) (ak x) (am x) (an x) (m x) R _).mpr (step x hx)) x hx)
noncomputable def Tw (y z aa ab ad ae af ag ah ai aj ak am an ao ap aq t u v w x b c d e f g h i j k l n o p q r s:Int) (m:Mem) (R:AV→Mem→Prop) (N0 N1:St→Prop):Prop:=
bif (decide (b<(4))) then (
Bg (Cv pg (.index 109 (.tmp 0) (.tmp 1)) 3 [AV.agg [Aa u,Aa v,Aa w,Aa x],Aa b] (Ao ((0,some ⟨[Aa c,Aa d,Aa e,Aa f,Aa g,Aa h,Aa i,Aa j,Aa k,Aa l,Aa n,Aa o,Aa p,Aa q,Aa r,Aa s],111⟩)::m)) 200001) fun v9=>
Af v9 fun a=>
bif (decide (a<(30))) then (
A8 R ((0,some ⟨[Aa c,Aa d,Aa e,Aa f,Aa g,Aa h,Aa i,Aa j,Aa k,Aa l,Aa n,Aa o,Aa p,Aa q,Aa r,Aa s],111⟩)::m) [some (Aa (4))]) else (
bif (decide (a>(600))) then (
A8 R ((0,some ⟨[Aa c,Aa d,Aa e,Aa f,Aa g,Aa h,Aa i,Aa j,Aa k,Aa l,Aa n,Aa o,Aa p,Aa q,Aa r,Aa s],111⟩)::m) [some (Aa (4))]) else (
N1 ⟨[(1,(AV.ptr 0 0)),(2,(Aa y)),(10,(AV.agg [Aa z,Aa aa,Aa ab,Aa ad,Aa ae,Aa af,Aa ag,Aa ah,Aa ai,Aa aj,Aa ak,Aa am,Aa an,Aa ao,Aa ap,Aa aq])),(11,(Aa t)),(14,(AV.agg [Aa u,Aa v,Aa w,Aa x])),(15,(Aa (IntKind.wrap .i64 (b+(1))))),(16,(Ae (decide (b<(4))))),(17,(Aa a)),(6,(Aa a)),(18,(Aa a)),(19,(Ae (decide (a<(30))))),(20,(Ae false)),(21,(Aa a)),(22,(Ae (decide (a>(600))))),(23,(Ae (decide (a>(600))))),(24,(Aa (IntKind.wrap .i64 (b+(1)))))],((0,some ⟨[Aa c,Aa d,Aa e,Aa f,Aa g,Aa h,Aa i,Aa j,Aa k,Aa l,Aa n,Aa o,Aa p,Aa q,Aa r,Aa s],111⟩)::m),200011⟩))) else (
N0 ⟨[(1,(AV.ptr 0 0)),(2,(Aa y)),(10,(AV.agg [Aa z,Aa aa,Aa ab,Aa ad,Aa ae,Aa af,Aa ag,Aa ah,Aa ai,Aa aj,Aa ak,Aa am,Aa an,Aa ao,Aa ap,Aa aq])),(11,(Aa (IntKind.wrap .i64 (t+(1))))),(14,(AV.agg [Aa u,Aa v,Aa w,Aa x])),(15,(Aa b)),(16,(Ae (decide (b<(4))))),(25,(Aa (IntKind.wrap .i64 (t+(1)))))],((0,some ⟨[Aa c,Aa d,Aa e,Aa f,Aa g,Aa h,Aa i,Aa j,Aa k,Aa l,Aa n,Aa o,Aa p,Aa q,Aa r,Aa s],111⟩)::m),200003⟩)
theorem jN (a b c d e f g h i j k l n o p q r s t u v w x y z aa ab ad ae af ag ah ai aj ak am an ao ap:Int) (m:Mem) (R:AV→Mem→Prop) (N0 N1:St→Prop):W pg KK 55 0 Tr (Nd a b c d e f g h i j k l n o p q r s t u v w x y z aa ab ad ae af ag ah ai aj ak am an ao ap m) (vA R N0 N1)=Tw a b c d e f g h i j k l n o p q r s t u v w x y z aa ab ad ae af ag ah ai aj ak am an ao ap m R N0 N1:=by kernel_rfl
theorem Afl (R:AV→Mem→Prop) (N0:St→Prop) {σ:Type} (I:σ→Prop) (a b c d e f g h i j k l n o p q r t u v w z aa ab ad ae af ag ah ai aj ak am an ao ap aq ar au:σ→Int) (m:σ→Mem) (μ:σ→Nat) (step:∀x,I x→Tw (a x) (b x) (c x) (d x) (e x) (f x) (g x) (h x) (i x) (j x) (k x) (l x) (n x) (o x) (p x) (q x) (r x) (t x) (u x) (v x) (w x) (z x) (aa x) (ab x) (ad x) (ae x) (af x) (ag x) (ah x) (ai x) (aj x) (ak x) (am x) (an x) (ao x) (ap x) (aq x) (ar x) (au x) (m x) R N0 (fun s'=>∃y,I y∧μ y<μ x∧Bb KK 55 0 s' (Nd (a y) (b y) (c y) (d y) (e y) (f y) (g y) (h y) (i y) (j y) (k y) (l y) (n y) (o y) (p y) (q y) (r y) (t y) (u y) (v y) (w y) (z y) (aa y) (ab y) (ad y) (ae y) (af y) (ag y) (ah y) (ai y) (aj y) (ak y) (am y) (an y) (ao y) (ap y) (aq y) (ar y) (au y) (m y)))) (x:σ) (hx:I x) {s:St} (hw:Bb KK 55 0 s (Nd (a x) (b x) (c x) (d x) (e x) (f x) (g x) (h x) (i x) (j x) (k x) (l x) (n x) (o x) (p x) (q x) (r x) (t x) (u x) (v x) (w x) (z x) (aa x) (ab x) (ad x) (ae x) (af x) (ag x) (ah x) (ai x) (aj x) (ak x) (am x) (an x) (ao x) (ap x) (aq x) (ar x) (au x) (m x))):Bu pg KK 55 0 (.loop Tr) s (Tl R N0):=
 Bu.Eh hw (Bu.loops Dl I (fun x=>Nd (a x) (b x) (c x) (d x) (e x) (f x) (g x) (h x) (i x) (j x) (k x) (l x) (n x) (o x) (p x) (q x) (r x) (t x) (u x) (v x) (w x) (z x) (aa x) (ab x) (ad x) (ae x) (af x) (ag x) (ah x) (ai x) (aj x) (ak x) (am x) (an x) (ao x) (ap x) (aq x) (ar x) (au x) (m x)) μ (fun x hx=>(jN (a x) (b x) (c x) (d x) (e x) (f x) (g x) (h x) (i x) (j x) (k x) (l x) (n x) (o x) (p x) (q x) (r x) (t x) (u x) (v x) (w x) (z x) (aa x) (ab x) (ad x) (ae x) (af x) (ag x) (ah x) (ai x) (aj x) (ak x) (am x) (an x) (ao x) (ap x) (aq x) (ar x) (au x) (m x) R N0 _).mpr (step x hx)) x hx)
noncomputable def oC (s a b c d e f g h i j k l n o p q r:Int) (m:Mem) (R:AV→Mem→Prop) (N0:St→Prop):Prop:=
bif (decide (a<(4))) then (
Bu pg KK 55 0 (.loop Mw) ⟨[(1,(AV.ptr 0 0)),(2,(Aa s)),(26,(Aa a)),(27,(Ae (decide (a<(4))))),(28,(Aa a)),(7,(Aa a)),(29,(Aa (0)))],((0,some ⟨[Aa b,Aa c,Aa d,Aa e,Aa f,Aa g,Aa h,Aa i,Aa j,Aa k,Aa l,Aa n,Aa o,Aa p,Aa q,Aa r],111⟩)::m),200004⟩ (Tm R N0)) else (
A8 R ((0,some ⟨[Aa b,Aa c,Aa d,Aa e,Aa f,Aa g,Aa h,Aa i,Aa j,Aa k,Aa l,Aa n,Aa o,Aa p,Aa q,Aa r],111⟩)::m) [some (Aa (0))])
theorem uL (a b c d e f g h i j k l n o p q r s:Int) (m:Mem) (R:AV→Mem→Prop) (N0:St→Prop):W pg KK 55 0 Xa (Ny a b c d e f g h i j k l n o p q r s m) (uZ R N0)=oC a b c d e f g h i j k l n o p q r s m R N0:=by kernel_rfl
theorem Ami (R:AV→Mem→Prop) {σ:Type} (I:σ→Prop) (a b c d e f g h i j k l n o p q r t:σ→Int) (m:σ→Mem) (μ:σ→Nat) (step:∀x,I x→oC (a x) (b x) (c x) (d x) (e x) (f x) (g x) (h x) (i x) (j x) (k x) (l x) (n x) (o x) (p x) (q x) (r x) (t x) (m x) R (fun s'=>∃y,I y∧μ y<μ x∧Bb KK 55 0 s' (Ny (a y) (b y) (c y) (d y) (e y) (f y) (g y) (h y) (i y) (j y) (k y) (l y) (n y) (o y) (p y) (q y) (r y) (t y) (m y)))) (x:σ) (hx:I x) {s:St} (hw:Bb KK 55 0 s (Ny (a x) (b x) (c x) (d x) (e x) (f x) (g x) (h x) (i x) (j x) (k x) (l x) (n x) (o x) (p x) (q x) (r x) (t x) (m x))):Bu pg KK 55 0 (.loop Xa) s (kO R):=
 Bu.Eh hw (Bu.loops Dl I (fun x=>Ny (a x) (b x) (c x) (d x) (e x) (f x) (g x) (h x) (i x) (j x) (k x) (l x) (n x) (o x) (p x) (q x) (r x) (t x) (m x)) μ (fun x hx=>(uL (a x) (b x) (c x) (d x) (e x) (f x) (g x) (h x) (i x) (j x) (k x) (l x) (n x) (o x) (p x) (q x) (r x) (t x) (m x) R _).mpr (step x hx)) x hx)
noncomputable def Tk (c d b a e f g h i j k l n o p q r s t u:Int) (m:Mem) (R:AV→Mem→Prop) (N0 N1:St→Prop):Prop:=
bif (decide (a<(4))) then (
Bu pg KK 55 0 (.loop Mz) ⟨[(1,(AV.ptr 0 0)),(2,(Aa c)),(7,(Aa d)),(26,(Aa b)),(29,(Aa a)),(30,(Ae (decide (a<(4))))),(31,(Aa a)),(8,(Aa a)),(32,(Aa (0)))],((0,some ⟨[Aa e,Aa f,Aa g,Aa h,Aa i,Aa j,Aa k,Aa l,Aa n,Aa o,Aa p,Aa q,Aa r,Aa s,Aa t,Aa u],111⟩)::m),300004⟩ (Mv R N0 N1)) else (
N0 ⟨[(1,(AV.ptr 0 0)),(2,(Aa c)),(7,(Aa d)),(26,(Aa (IntKind.wrap .i64 (b+(1))))),(29,(Aa a)),(30,(Ae (decide (a<(4))))),(54,(Aa (IntKind.wrap .i64 (b+(1)))))],((0,some ⟨[Aa e,Aa f,Aa g,Aa h,Aa i,Aa j,Aa k,Aa l,Aa n,Aa o,Aa p,Aa q,Aa r,Aa s,Aa t,Aa u],111⟩)::m),300003⟩)
theorem iZ (a b c d e f g h i j k l n o p q r s t u:Int) (m:Mem) (R:AV→Mem→Prop) (N0 N1:St→Prop):W pg KK 55 0 Mw (Jq a b c d e f g h i j k l n o p q r s t u m) (cD R N0 N1)=Tk a b c d e f g h i j k l n o p q r s t u m R N0 N1:=by kernel_rfl
theorem Afb (R:AV→Mem→Prop) (N0:St→Prop) {σ:Type} (I:σ→Prop) (a b c d e f g h i j k l n o p q r t u v:σ→Int) (m:σ→Mem) (μ:σ→Nat) (step:∀x,I x→Tk (a x) (b x) (c x) (d x) (e x) (f x) (g x) (h x) (i x) (j x) (k x) (l x) (n x) (o x) (p x) (q x) (r x) (t x) (u x) (v x) (m x) R N0 (fun s'=>∃y,I y∧μ y<μ x∧Bb KK 55 0 s' (Jq (a y) (b y) (c y) (d y) (e y) (f y) (g y) (h y) (i y) (j y) (k y) (l y) (n y) (o y) (p y) (q y) (r y) (t y) (u y) (v y) (m y)))) (x:σ) (hx:I x) {s:St} (hw:Bb KK 55 0 s (Jq (a x) (b x) (c x) (d x) (e x) (f x) (g x) (h x) (i x) (j x) (k x) (l x) (n x) (o x) (p x) (q x) (r x) (t x) (u x) (v x) (m x))):Bu pg KK 55 0 (.loop Mw) s (Tm R N0):=
 Bu.Eh hw (Bu.loops Dl I (fun x=>Jq (a x) (b x) (c x) (d x) (e x) (f x) (g x) (h x) (i x) (j x) (k x) (l x) (n x) (o x) (p x) (q x) (r x) (t x) (u x) (v x) (m x)) μ (fun x hx=>(iZ (a x) (b x) (c x) (d x) (e x) (f x) (g x) (h x) (i x) (j x) (k x) (l x) (n x) (o x) (p x) (q x) (r x) (t x) (u x) (v x) (m x) R N0 _).mpr (step x hx)) x hx)
noncomputable def Nb (y b c z w a d e f g h i j k l n o p q r s t:Int) (m:Mem) (R:AV→Mem→Prop) (N0 N1 N2:St→Prop):Prop:=
bif (decide (a<(4))) then (
Bg (Wf 4 4 (AV.ptr 0 0) (Aa b)) fun aa=>
Bg (Wf 4 1 aa (Aa a)) fun ab=>
Bg (Ff (Ao ((0,some ⟨[Aa d,Aa e,Aa f,Aa g,Aa h,Aa i,Aa j,Aa k,Aa l,Aa n,Aa o,Aa p,Aa q,Aa r,Aa s,Aa t],111⟩)::m)) ab) fun ah=>
Af ah fun x=>
Bg (Wf 4 4 (AV.ptr 0 0) (Aa b)) fun ad=>
Bg (Wf 4 1 ad (Aa c)) fun ae=>
Bg (Ff (Ao ((0,some ⟨[Aa d,Aa e,Aa f,Aa g,Aa h,Aa i,Aa j,Aa k,Aa l,Aa n,Aa o,Aa p,Aa q,Aa r,Aa s,Aa t],111⟩)::m)) ae) fun ai=>
Af ai fun u=>
Bg (Wf 4 4 (AV.ptr 0 0) (Aa c)) fun af=>
Bg (Wf 4 1 af (Aa a)) fun ag=>
Bg (Ff (Ao ((0,some ⟨[Aa d,Aa e,Aa f,Aa g,Aa h,Aa i,Aa j,Aa k,Aa l,Aa n,Aa o,Aa p,Aa q,Aa r,Aa s,Aa t],111⟩)::m)) ag) fun aj=>
Af aj fun v=>
bif (decide (x>(IntKind.wrap .i64 (u+v)))) then (
A8 R ((0,some ⟨[Aa d,Aa e,Aa f,Aa g,Aa h,Aa i,Aa j,Aa k,Aa l,Aa n,Aa o,Aa p,Aa q,Aa r,Aa s,Aa t],111⟩)::m) [some (Aa (3))]) else (
N2 ⟨[(1,(AV.ptr 0 0)),(2,(Aa y)),(7,(Aa b)),(8,(Aa c)),(26,(Aa z)),(29,(Aa w)),(32,(Aa (IntKind.wrap .i64 (a+(1))))),(33,(Ae (decide (a<(4))))),(34,(Aa a)),(9,(Aa a)),(35,(Aa b)),(36,(Aa a)),(37,aa),(38,ab),(39,(Aa x)),(40,(Aa b)),(41,(Aa c)),(42,ad),(43,ae),(44,(Aa u)),(45,(Aa c)),(46,(Aa a)),(47,af),(48,ag),(49,(Aa v)),(50,(Aa (IntKind.wrap .i64 (u+v)))),(51,(Ae (decide (x>(IntKind.wrap .i64 (u+v)))))),(52,(Aa (IntKind.wrap .i64 (a+(1)))))],((0,some ⟨[Aa d,Aa e,Aa f,Aa g,Aa h,Aa i,Aa j,Aa k,Aa l,Aa n,Aa o,Aa p,Aa q,Aa r,Aa s,Aa t],111⟩)::m),400022⟩)) else (
N1 ⟨[(1,(AV.ptr 0 0)),(2,(Aa y)),(7,(Aa b)),(8,(Aa c)),(26,(Aa z)),(29,(Aa (IntKind.wrap .i64 (w+(1))))),(32,(Aa a)),(33,(Ae (decide (a<(4))))),(53,(Aa (IntKind.wrap .i64 (w+(1)))))],((0,some ⟨[Aa d,Aa e,Aa f,Aa g,Aa h,Aa i,Aa j,Aa k,Aa l,Aa n,Aa o,Aa p,Aa q,Aa r,Aa s,Aa t],111⟩)::m),400003⟩)
theorem Yl (a b c d e f g h i j k l n o p q r s t u v w:Int) (m:Mem) (R:AV→Mem→Prop) (N0 N1 N2:St→Prop):W pg KK 55 0 Mz (Ik a b c d e f g h i j k l n o p q r s t u v w m) (jB R N0 N1 N2)=Nb a b c d e f g h i j k l n o p q r s t u v w m R N0 N1 N2:=by kernel_rfl
theorem r9 (R:AV→Mem→Prop) (N0 N1:St→Prop) {σ:Type} (I:σ→Prop) (a b c d e f g h i j k l n o p q r t u v w z:σ→Int) (m:σ→Mem) (μ:σ→Nat) (step:∀x,I x→Nb (a x) (b x) (c x) (d x) (e x) (f x) (g x) (h x) (i x) (j x) (k x) (l x) (n x) (o x) (p x) (q x) (r x) (t x) (u x) (v x) (w x) (z x) (m x) R N0 N1 (fun s'=>∃y,I y∧μ y<μ x∧Bb KK 55 0 s' (Ik (a y) (b y) (c y) (d y) (e y) (f y) (g y) (h y) (i y) (j y) (k y) (l y) (n y) (o y) (p y) (q y) (r y) (t y) (u y) (v y) (w y) (z y) (m y)))) (x:σ) (hx:I x) {s:St} (hw:Bb KK 55 0 s (Ik (a x) (b x) (c x) (d x) (e x) (f x) (g x) (h x) (i x) (j x) (k x) (l x) (n x) (o x) (p x) (q x) (r x) (t x) (u x) (v x) (w x) (z x) (m x))):Bu pg KK 55 0 (.loop Mz) s (Mv R N0 N1):=
 Bu.Eh hw (Bu.loops Dl I (fun x=>Ik (a x) (b x) (c x) (d x) (e x) (f x) (g x) (h x) (i x) (j x) (k x) (l x) (n x) (o x) (p x) (q x) (r x) (t x) (u x) (v x) (w x) (z x) (m x)) μ (fun x hx=>(Yl (a x) (b x) (c x) (d x) (e x) (f x) (g x) (h x) (i x) (j x) (k x) (l x) (n x) (o x) (p x) (q x) (r x) (t x) (u x) (v x) (w x) (z x) (m x) R N0 N1 _).mpr (step x hx)) x hx)
noncomputable def F95 (a b c d e f g h i j k l m n o p:Int) (R:AV→Mem→Prop):Prop:=
Bu pg KK 55 0 (.loop Xd) ⟨[(0,(AV.agg [Aa a,Aa b,Aa c,Aa d,Aa e,Aa f,Aa g,Aa h,Aa i,Aa j,Aa k,Aa l,Aa m,Aa n,Aa o,Aa p])),(1,(AV.ptr 0 0)),(2,(Aa (0))),(10,(AV.agg [Aa a,Aa b,Aa c,Aa d,Aa e,Aa f,Aa g,Aa h,Aa i,Aa j,Aa k,Aa l,Aa m,Aa n,Aa o,Aa p])),(11,(Aa (0)))],((0,some ⟨[Aa a,Aa b,Aa c,Aa d,Aa e,Aa f,Aa g,Aa h,Aa i,Aa j,Aa k,Aa l,Aa m,Aa n,Aa o,Aa p],111⟩)::[]),4⟩ (mX R)
theorem Abt (a b c d e f g i j k l m n o p q:Int) (R:AV→Mem→Prop) (h:F95 a b c d e f g i j k l m n o p q R):Own pg KK.gl 95 [AV.agg [Aa a,Aa b,Aa c,Aa d,Aa e,Aa f,Aa g,Aa i,Aa j,Aa k,Aa l,Aa m,Aa n,Aa o,Aa p,Aa q]] R:=Bc Dl Tryz.func95 (code:=c95) Bf Bf Bf (X:=F95 a b c d e f g i j k l m n o p q R) Bf h
noncomputable def Apj:Code:=((Tryz.f303).body).getD .skip
noncomputable def Arx (R:AV→Mem→Prop):A4→St→Prop:=Cr pg Tryz.f303 R
noncomputable def Afk (a:AV) (d:Int) (R:AV→Mem→Prop):Prop:=
Bg (Cn a) fun e=>
Af e fun f=>
Bg (Cv pg (.binOp .rem 3 (.tmp 0) (.tmp 1) 3) 3 [Aa (IntKind.wrap .i64 (d+(1))),Aa f] (Ao ((0,some ⟨[Aa (0),Aa (0)],51⟩)::[])) 6) fun g=>
Af g fun h=>
Bg (Cw 2 a (Aa h)) fun i=>
Bg (F2 (Ao ((0,some ⟨[Aa (0),Aa (0)],51⟩)::[])) 2 i) fun j=>
Da j fun k c7=>
Af k fun b=>
Af c7 fun c=>
A8 R ((0,some ⟨[Aa b,Aa c],51⟩)::(0,some ⟨[Aa (0),Aa (0)],51⟩)::[]) [some (AV.agg [Aa b,Aa c])]
theorem uD (a:AV) (b:Int) (R:AV→Mem→Prop) (h:Afk a b R):Own pg KK.gl 303 [a,Aa b] R:=Bc Dl Tryz.func303 (code:=Apj) Bf Bf Bf (X:=Afk a b R) Bf h
noncomputable def Aoa:Code:=((Tryz.f338).body).getD .skip
noncomputable def Asb (R:AV→Mem→Prop):A4→St→Prop:=Cr pg Tryz.f338 R
noncomputable def Aet (a b c d:Int) (R:AV→Mem→Prop):Prop:=
A8 R ((1,some ⟨[Aa c,Aa d],51⟩)::(0,some ⟨[Aa a,Aa b],51⟩)::[]) [some (Aa (IntKind.wrap .i64 ((IntKind.wrap .i64 (a*d))-(IntKind.wrap .i64 (b*c)))))]
theorem y9 (a b c d:Int) (R:AV→Mem→Prop) (h:Aet a b c d R):Own pg KK.gl 338 [AV.agg [Aa a,Aa b],AV.agg [Aa c,Aa d]] R:=Bc Dl Tryz.func338 (code:=Aoa) Bf Bf Bf (X:=Aet a b c d R) Bf h
noncomputable def Apv:Code:=((Tryz.f302).body).getD .skip
noncomputable def Aro (R:AV→Mem→Prop):A4→St→Prop:=Cr pg Tryz.f302 R
noncomputable def Aa7 (a b c d e f:Int) (R:AV→Mem→Prop):Prop:=
Bj pg KK.gl ((2,some ⟨[Aa e,Aa f],51⟩)::(1,some ⟨[Aa c,Aa d],51⟩)::(0,some ⟨[Aa a,Aa b],51⟩)::[]) 249 [AV.agg [Aa c,Aa d],AV.agg [Aa a,Aa b]] fun h=>
Da h fun i j=>
Af i fun k=>
Af j fun l=>
Bj pg KK.gl ((2,some ⟨[Aa e,Aa f],51⟩)::(1,some ⟨[Aa c,Aa d],51⟩)::(0,some ⟨[Aa a,Aa b],51⟩)::[]) 249 [AV.agg [Aa e,Aa f],AV.agg [Aa a,Aa b]] fun m=>
Da m fun n c7=>
Af n fun o=>
Af c7 fun p=>
Bj pg KK.gl ((2,some ⟨[Aa e,Aa f],51⟩)::(1,some ⟨[Aa c,Aa d],51⟩)::(0,some ⟨[Aa a,Aa b],51⟩)::[]) 338 [AV.agg [Aa k,Aa l],AV.agg [Aa o,Aa p]] fun q=>
Af q fun g=>
bif (decide (g>(0))) then (
A8 R ((2,some ⟨[Aa e,Aa f],51⟩)::(1,some ⟨[Aa c,Aa d],51⟩)::(0,some ⟨[Aa a,Aa b],51⟩)::[]) [some (Aa (1))]) else (
bif (decide (g<(0))) then (
A8 R ((2,some ⟨[Aa e,Aa f],51⟩)::(1,some ⟨[Aa c,Aa d],51⟩)::(0,some ⟨[Aa a,Aa b],51⟩)::[]) [some (Aa (-1))]) else (
A8 R ((2,some ⟨[Aa e,Aa f],51⟩)::(1,some ⟨[Aa c,Aa d],51⟩)::(0,some ⟨[Aa a,Aa b],51⟩)::[]) [some (Aa (0))]))
theorem yK (a b c d e f:Int) (R:AV→Mem→Prop) (h:Aa7 a b c d e f R):Own pg KK.gl 302 [AV.agg [Aa a,Aa b],AV.agg [Aa c,Aa d],AV.agg [Aa e,Aa f]] R:=Bc Dl Tryz.func302 (code:=Apv) Bf Bf Bf (X:=Aa7 a b c d e f R) Bf h
end Go.Proofs.YtmechmjjcgdpdaaGreatDoor
