/- Plain functional programs out of the program's functions; printed by wip/Ext.lean.txt. -/
import Derived.Test.YtlenkbgeomojnaaGreatDoorX1T
import Derived.Test.YtlenkbgeomojnaaGreatDoorPJ
import Derived.Test.YtlenkbgeomojnaaGreatDoorPZ
import Derived.Test.YtlenkbgeomojnaaGreatDoorPL
set_option linter.unusedVariables false
set_option linter.unusedSimpArgs false
set_option maxRecDepth 100000
set_option maxHeartbeats 4000000
namespace Go.Proofs.YtlenkbgeomojnaaGreatDoor
abbrev ρ168:=(Int)
def g168 (n:Nat) (a:TSep):Option ρ168:=
bif (decide (a.Lateral<(0))) then (
some (4)) else (
bif (decide (a.Lateral>(1000000))) then (
some (4)) else (
bif (decide (a.Vertical<(0))) then (
some (4)) else (
bif (decide (a.Vertical>(60000))) then (
some (4)) else (
some (0)))))
abbrev ρ70:=(Int)
def g70 (n:Nat) (a:TP):Option ρ70:=
bif (decide (a.X<(-1000000))) then (
some (4)) else (
bif (decide (a.X>(1000000))) then (
some (4)) else (
bif (decide (a.Y<(-1000000))) then (
some (4)) else (
bif (decide (a.Y>(1000000))) then (
some (4)) else (
some (0)))))
abbrev ρ36:=(Int)
def S36_0 (n:Nat) (c:List TTubeNode) (h f b:Int):Option ((Int)⊕ρ36):=
bif (decide (b<f)) then (
(getI c b).bind fun a=>
bif (decide (a.Node_Time<(0))) then (
some (.inr (12))) else (
bif (decide (a.Node_Time>(200000))) then (
some (.inr (12))) else (
bif (decide (b>(0))) then (
(getI c (IntKind.wrap .i64 (b-(1)))).bind fun g=>
bif (decide (a.Node_Time≤g.Node_Time)) then (
some (.inr (12))) else (
(g70 n (⟨a.Node_At_X,a.Node_At_Y⟩:TP)).bind fun d=>
bif (d !=(0)) then (
some (.inr (d))) else (
bif (decide (a.Node_Height<(0))) then (
some (.inr (4))) else (
bif (decide (a.Node_Height>(60000))) then (
some (.inr (4))) else (
bif (decide (a.Radius<(0))) then (
some (.inr (4))) else (
bif (decide (a.Radius>(1000000))) then (
some (.inr (4))) else (
bif (decide (a.Band<(0))) then (
some (.inr (4))) else (
bif (decide (a.Band>(60000))) then (
some (.inr (4))) else (
some (.inl (IntKind.wrap .i64 (b+(1))))))))))))) else (
(g70 n (⟨a.Node_At_X,a.Node_At_Y⟩:TP)).bind fun e=>
bif (e !=(0)) then (
some (.inr (e))) else (
bif (decide (a.Node_Height<(0))) then (
some (.inr (4))) else (
bif (decide (a.Node_Height>(60000))) then (
some (.inr (4))) else (
bif (decide (a.Radius<(0))) then (
some (.inr (4))) else (
bif (decide (a.Radius>(1000000))) then (
some (.inr (4))) else (
bif (decide (a.Band<(0))) then (
some (.inr (4))) else (
bif (decide (a.Band>(60000))) then (
some (.inr (4))) else (
some (.inl (IntKind.wrap .i64 (b+(1))))))))))))))) else (
some (.inr (0)))
def g36 (n:Nat) (a:List TTubeNode):Option ρ36:=
bif (decide ((a.length:Int)>(64))) then (
some (2)) else (
bif ((a.length:Int)==(0)) then (
some (3)) else (
iterO (fun y:Int=>S36_0 n a (0) (a.length:Int) y) n (0)))
abbrev ρ144:=(Int)
def S144_0 (n:Nat) (f:Int) (c:List (List TTubeNode)) (d a:Int):Option ((Int)⊕ρ144):=
bif (decide (a<d)) then (
(getI c a).bind fun e=>
(g36 n e).bind fun b=>
bif (b !=(0)) then (
some (.inr (b))) else (
some (.inl (IntKind.wrap .i64 (a+(1)))))) else (
some (.inr (0)))
def g144 (n:Nat) (c:TSep) (a:List (List TTubeNode)):Option ρ144:=
(g168 n c).bind fun b=>
bif (b !=(0)) then (
some (b)) else (
iterO (fun y:Int=>S144_0 n (0) a (a.length:Int) y) n (0))
abbrev ρ216:=(Int×Int)
def g216 (n:Nat) (a b:List TTubeNode):Option ρ216:=
(getI a (0)).bind fun c=>
(getI b (0)).bind fun d=>
(getI a (IntKind.wrap .i64 ((a.length:Int)-(1)))).bind fun e=>
(getI b (IntKind.wrap .i64 ((b.length:Int)-(1)))).bind fun f=>
some ((if d.Node_Time>c.Node_Time then d.Node_Time else c.Node_Time),(if f.Node_Time<e.Node_Time then f.Node_Time else e.Node_Time))
abbrev ρ137:=(Int×Int)
def g137 (n:Nat) (a:List TTubeNode):Option ρ137:=
(getI a (0)).bind fun b=>
(getI a (IntKind.wrap .i64 ((a.length:Int)-(1)))).bind fun c=>
some (b.Node_Time,c.Node_Time)
abbrev ρ205:=(Int)
def g205 (n:Nat) (a:TTubeNode) (b:Int):Option ρ205:=
some (IntKind.wrap .i64 (a.Node_Time-b))
abbrev ρ204:=(Int×Bool)
def S204_0 (n:Nat) (c:List TTubeNode) (d c6:Int) (c7:Bool) (c8 a b:Int):Option ((Int×Int)⊕ρ204):=
bif (decide (a<b)) then (
(getI c (IntKind.wrap .i64 (Int.fdiv (IntKind.wrap .u64 (IntKind.wrap .i64 (a+b))) 2))).bind fun e=>
(g205 n e d).bind fun f=>
bif (decide (f<(0))) then (
some (.inl ((IntKind.wrap .i64 ((IntKind.wrap .i64 (Int.fdiv (IntKind.wrap .u64 (IntKind.wrap .i64 (a+b))) 2))+(1))),b))) else (
some (.inl (a,(IntKind.wrap .i64 (Int.fdiv (IntKind.wrap .u64 (IntKind.wrap .i64 (a+b))) 2)))))) else (
bif (decide (a<c8)) then (
(getI c a).bind fun g=>
(g205 n g d).bind fun h=>
some (.inr (a,(h==(0))))) else (
some (.inr (a,false))))
def g204 (n:Nat) (a:List TTubeNode) (b:Int):Option ρ204:=
iterO (fun y:Int×Int=>S204_0 n a b (0) false (a.length:Int) y.1 y.2) n ((0),(a.length:Int))
abbrev ρ207:=(Int×Int)
def g207 (n:Nat) (b a:Int):Option ρ207:=
bif (a==(0)) then (
some ((0),(10))) else (
bif (b==(-9223372036854775808)) then (
bif (a==(-1)) then (
some ((0),(2))) else (
(divO b a).bind fun c=>
(modO b a).bind fun e=>
bif (e !=(0)) then (
bif (!((decide (b<(0)))==(decide (a<(0))))) then (
some ((IntKind.wrap .i64 ((IntKind.wrap .i64 c)-(1))),(0))) else (
some ((IntKind.wrap .i64 c),(0)))) else (
some ((IntKind.wrap .i64 c),(0))))) else (
(divO b a).bind fun d=>
(modO b a).bind fun f=>
bif (f !=(0)) then (
bif (!((decide (b<(0)))==(decide (a<(0))))) then (
some ((IntKind.wrap .i64 ((IntKind.wrap .i64 d)-(1))),(0))) else (
some ((IntKind.wrap .i64 d),(0)))) else (
some ((IntKind.wrap .i64 d),(0)))))
abbrev ρ206:=(TP×Int)
def g206 (n:Nat) (a c:TP) (d b:Int):Option ρ206:=
bif (decide (b≤(0))) then (
some ((⟨0,0⟩:TP),(10))) else (
bif (decide (b>(200000))) then (
some ((⟨0,0⟩:TP),(4))) else (
bif (decide (d<(0))) then (
some ((⟨0,0⟩:TP),(4))) else (
bif (decide (d>b)) then (
some ((⟨0,0⟩:TP),(4))) else (
(g70 n a).bind fun e=>
bif (e !=(0)) then (
(g70 n a).bind fun f=>
some ((⟨0,0⟩:TP),f)) else (
(g70 n c).bind fun g=>
bif (g !=(0)) then (
(g70 n c).bind fun h=>
some ((⟨0,0⟩:TP),h)) else (
(g207 n (IntKind.wrap .i64 ((IntKind.wrap .i64 (c.X-a.X))*d)) b).bind fun i=>
(g207 n (IntKind.wrap .i64 ((IntKind.wrap .i64 (c.Y-a.Y))*d)) b).bind fun j=>
some ((⟨IntKind.wrap .i64 (a.X+i.1),IntKind.wrap .i64 (a.Y+j.1)⟩:TP),(0))))))))
abbrev ρ208:=(Int×Int)
def g208 (n:Nat) (b c:Int):Option ρ208:=
(g207 n b c).bind fun a=>
bif (a.2==(0)) then (
(modO b c).bind fun d=>
bif (d !=(0)) then (
some ((IntKind.wrap .i64 (a.1+(1))),a.2)) else (
some (a.1,a.2))) else (
some (a.1,a.2))
abbrev ρ138:=(TTubeNode)
def g138 (n:Nat) (d:List TTubeNode) (c:Int):Option ρ138:=
(g204 n d c).bind fun e=>
bif e.2 then (
(getI d e.1).bind fun g=>
some (g)) else (
(getI d (IntKind.wrap .i64 (e.1-(1)))).bind fun a=>
(getI d e.1).bind fun b=>
(g206 n (⟨a.Node_At_X,a.Node_At_Y⟩:TP) (⟨b.Node_At_X,b.Node_At_Y⟩:TP) (IntKind.wrap .i64 (c-a.Node_Time)) (IntKind.wrap .i64 (b.Node_Time-a.Node_Time))).bind fun f=>
(g207 n (IntKind.wrap .i64 ((IntKind.wrap .i64 (b.Node_Height-a.Node_Height))*(IntKind.wrap .i64 (c-a.Node_Time)))) (IntKind.wrap .i64 (b.Node_Time-a.Node_Time))).bind fun h=>
(g208 n (IntKind.wrap .i64 ((IntKind.wrap .i64 (b.Radius-a.Radius))*(IntKind.wrap .i64 (c-a.Node_Time)))) (IntKind.wrap .i64 (b.Node_Time-a.Node_Time))).bind fun i=>
(g208 n (IntKind.wrap .i64 ((IntKind.wrap .i64 (b.Band-a.Band))*(IntKind.wrap .i64 (c-a.Node_Time)))) (IntKind.wrap .i64 (b.Node_Time-a.Node_Time))).bind fun j=>
some (⟨c,f.1.X,f.1.Y,IntKind.wrap .i64 (a.Node_Height+h.1),IntKind.wrap .i64 (a.Radius+i.1),IntKind.wrap .i64 (a.Band+j.1)⟩:TTubeNode))
abbrev ρ71:=(TTubeNode×Int)
def g71 (n:Nat) (a:List TTubeNode) (b:Int):Option ρ71:=
(g36 n a).bind fun c=>
bif (c !=(0)) then (
some ((⟨0,0,0,0,0,0⟩:TTubeNode),c)) else (
(g137 n a).bind fun d=>
bif (decide (b<d.1)) then (
some ((⟨0,0,0,0,0,0⟩:TTubeNode),(12))) else (
bif (decide (b>d.2)) then (
some ((⟨0,0,0,0,0,0⟩:TTubeNode),(12))) else (
(g138 n a b).bind fun e=>
some (e,(0)))))
abbrev ρ242:=(TP)
def g242 (n:Nat) (a b:TP):Option ρ242:=
some (⟨IntKind.wrap .i64 (a.X-b.X),IntKind.wrap .i64 (a.Y-b.Y)⟩:TP)
abbrev ρ326:=(Int)
def g326 (n:Nat) (a b:TP):Option ρ326:=
some (IntKind.wrap .i64 ((IntKind.wrap .i64 (a.X*b.X))+(IntKind.wrap .i64 (a.Y*b.Y))))
abbrev ρ277:=(Int)
def g277 (n:Nat) (b c:TP):Option ρ277:=
(g242 n b c).bind fun a=>
(g326 n a a).bind fun d=>
some (d)
abbrev ρ278:=(Int)
def S278_0 (n:Nat) (c d a b:Int):Option ((Int×Int)⊕ρ278):=
bif (decide (a<b)) then (
bif (decide ((IntKind.wrap .i64 ((IntKind.wrap .i64 (a+(IntKind.wrap .i64 (Int.tdiv (IntKind.wrap .i64 ((IntKind.wrap .i64 (b-a))+(1))) (2)))))*(IntKind.wrap .i64 (a+(IntKind.wrap .i64 (Int.tdiv (IntKind.wrap .i64 ((IntKind.wrap .i64 (b-a))+(1))) (2)))))))≤c)) then (
some (.inl ((IntKind.wrap .i64 (a+(IntKind.wrap .i64 (Int.tdiv (IntKind.wrap .i64 ((IntKind.wrap .i64 (b-a))+(1))) (2))))),b))) else (
some (.inl (a,(IntKind.wrap .i64 ((IntKind.wrap .i64 (a+(IntKind.wrap .i64 (Int.tdiv (IntKind.wrap .i64 ((IntKind.wrap .i64 (b-a))+(1))) (2)))))-(1))))))) else (
some (.inr (a)))
def g278 (n:Nat) (a:Int):Option ρ278:=
bif (decide (a≤(0))) then (
some (0)) else (
iterO (fun y:Int×Int=>S278_0 n a (0) y.1 y.2) n ((0),(3037000499)))
abbrev ρ215:=(Int×Int)
def g215 (n:Nat) (c d:TP):Option ρ215:=
(g277 n c d).bind fun b=>
(g278 n b).bind fun a=>
bif (decide ((IntKind.wrap .i64 (a*a))<b)) then (
some (a,(IntKind.wrap .i64 (a+(1))))) else (
some (a,a))
abbrev ρ217:=(Bool)
def g217 (n:Nat) (a b:TTubeNode) (c:TSep):Option ρ217:=
(g215 n (⟨a.Node_At_X,a.Node_At_Y⟩:TP) (⟨b.Node_At_X,b.Node_At_Y⟩:TP)).bind fun d=>
bif (decide ((IntKind.wrap .i64 ((IntKind.wrap .i64 (d.1-a.Radius))-b.Radius))≥c.Lateral)) then (
some (true)) else (
some (decide ((IntKind.wrap .i64 ((IntKind.wrap .i64 ((if (IntKind.wrap .i64 (b.Node_Height-a.Node_Height))>(IntKind.wrap .i64 (a.Node_Height-b.Node_Height)) then (IntKind.wrap .i64 (b.Node_Height-a.Node_Height)) else (IntKind.wrap .i64 (a.Node_Height-b.Node_Height)))-a.Band))-b.Band))≥c.Vertical)))
abbrev ρ145:=((List TSpan))
def S145_0 (n:Nat) (c d:List TTubeNode) (c9 e f a:Int) (b:List TSpan):Option ((Int×List TSpan)⊕ρ145):=
bif (decide (a≤c9)) then (
(g71 n c a).bind fun g=>
(g71 n d a).bind fun h=>
(g217 n g.1 h.1 (⟨e,f⟩:TSep)).bind fun i=>
bif i then (
some (.inl ((IntKind.wrap .i64 (a+(1))),b))) else (
bif (decide ((b.length:Int)>(0))) then (
(getI b (IntKind.wrap .i64 ((b.length:Int)-(1)))).bind fun j=>
bif (j.To==a) then (
(getI b (IntKind.wrap .i64 ((b.length:Int)-(1)))).bind fun k=>
some (.inl ((IntKind.wrap .i64 (a+(1))),(b.set (((IntKind.wrap .i64 ((b.length:Int)-(1))):Int).toNat) (⟨k.From,IntKind.wrap .i64 (a+(1))⟩:TSpan))))) else (
(roomO (b.length+([(⟨a,IntKind.wrap .i64 (a+(1))⟩:TSpan)]:List TSpan).length) 16).bind fun l=>
some (.inl ((IntKind.wrap .i64 (a+(1))),(b++([(⟨a,IntKind.wrap .i64 (a+(1))⟩:TSpan)]:List TSpan)))))) else (
(roomO (b.length+([(⟨a,IntKind.wrap .i64 (a+(1))⟩:TSpan)]:List TSpan).length) 16).bind fun m=>
some (.inl ((IntKind.wrap .i64 (a+(1))),(b++([(⟨a,IntKind.wrap .i64 (a+(1))⟩:TSpan)]:List TSpan))))))) else (
some (.inr (b)))
def g145 (n:Nat) (a b:List TTubeNode) (c:TSep):Option ρ145:=
(g216 n a b).bind fun d=>
iterO (fun y:Int×List TSpan=>S145_0 n a b d.2 c.Lateral c.Vertical y.1 y.2) n (d.1,[])
abbrev ρ74:=((List TSpan)×Int)
def g74 (n:Nat) (a b:List TTubeNode) (c:TSep):Option ρ74:=
(g144 n c ([a,b]:List (List TTubeNode))).bind fun d=>
bif (d !=(0)) then (
some ([],d)) else (
(g145 n a b c).bind fun e=>
some (e,(0)))
abbrev ρ23:=(Int×Int)
def g23 (n:Nat) (b c:List TTubeNode) (d:TSep):Option ρ23:=
(g74 n b c d).bind fun a=>
bif (a.2 !=(0)) then (
some ((0),a.2)) else (
bif ((a.1.length:Int)==(0)) then (
some ((0),(8))) else (
(getI a.1 (0)).bind fun e=>
some (e.From,(0))))
abbrev ρ86:=(Int)
def S86_0_0 (n:Nat) (h i j k l m o p q r s t u v w x y c d e f g a:Int):Option ((Int)⊕((Int)⊕ρ86)):=
bif (decide (a<(4))) then (
(getI ([d,e,f,g]:List Int) a).bind fun b=>
bif (decide (b<(30))) then (
some (.inr (.inr (4)))) else (
bif (decide (b>(600))) then (
some (.inr (.inr (4)))) else (
some (.inl (IntKind.wrap .i64 (a+(1))))))) else (
some (.inr (.inl (IntKind.wrap .i64 (c+(1))))))
def S86_1_0_0 (n:Nat) (z v d e f g h i j k l m o p q r s t u u32:Int):Option ((Int)⊕((Int)⊕((Int)⊕ρ86))):=
bif (decide (u32<(4))) then (
(getI ([(⟨e,f,g,h⟩:T92),(⟨i,j,k,l⟩:T92),(⟨m,o,p,q⟩:T92),(⟨r,s,t,u⟩:T92)]:List T92) v).bind fun a=>
(getI ([a.c0,a.c1,a.c2,a.c3]:List Int) u32).bind fun w=>
(getI ([(⟨e,f,g,h⟩:T92),(⟨i,j,k,l⟩:T92),(⟨m,o,p,q⟩:T92),(⟨r,s,t,u⟩:T92)]:List T92) v).bind fun b=>
(getI ([b.c0,b.c1,b.c2,b.c3]:List Int) d).bind fun x=>
(getI ([(⟨e,f,g,h⟩:T92),(⟨i,j,k,l⟩:T92),(⟨m,o,p,q⟩:T92),(⟨r,s,t,u⟩:T92)]:List T92) d).bind fun c=>
(getI ([c.c0,c.c1,c.c2,c.c3]:List Int) u32).bind fun y=>
bif (decide (w>(IntKind.wrap .i64 (x+y)))) then (
some (.inr (.inr (.inr (3))))) else (
some (.inl (IntKind.wrap .i64 (u32+(1)))))) else (
some (.inr (.inl (IntKind.wrap .i64 (d+(1))))))
def S86_1_0 (n:Nat) (c a d e f g h i j k l m o p q r s t b:Int):Option ((Int)⊕((Int)⊕ρ86)):=
bif (decide (b<(4))) then (
iterO (fun y:Int=>S86_1_0_0 n c a b d e f g h i j k l m o p q r s t y) n (0)) else (
some (.inr (.inl (IntKind.wrap .i64 (a+(1))))))
def S86_1 (n:Nat) (b c d e f g h i j k l m o p q r s a:Int):Option ((Int)⊕ρ86):=
bif (decide (a<(4))) then (
iterO (fun y:Int=>S86_1_0 n b a c d e f g h i j k l m o p q r s y) n (0)) else (
some (.inr (0)))
def S86_0 (n:Nat) (t b c d e f g h i j k l m o p q r s:Int):Option ((Int)⊕ρ86):=
bif (decide (s<(4))) then (
(getI ([(⟨b,c,d,e⟩:T92),(⟨f,g,h,i⟩:T92),(⟨j,k,l,m⟩:T92),(⟨o,p,q,r⟩:T92)]:List T92) s).bind fun a=>
iterO (fun y:Int=>S86_0_0 n t b c d e f g h i j k l m o p q r s a.c0 a.c1 a.c2 a.c3 y) n (0)) else (
((iterO (fun y:Int=>S86_1 n t b c d e f g h i j k l m o p q r y) n (0)).map Sum.inr))
def g86 (n:Nat) (a:TWakeTable):Option ρ86:=
iterO (fun y:Int=>S86_0 n (0) a.c0_0 a.c0_1 a.c0_2 a.c0_3 a.c1_0 a.c1_1 a.c1_2 a.c1_3 a.c2_0 a.c2_1 a.c2_2 a.c2_3 a.c3_0 a.c3_1 a.c3_2 a.c3_3 y) n (0)
abbrev ρ300:=(TP)
def g300 (n:Nat) (a:List TP) (b:Int):Option ρ300:=
(modO (IntKind.wrap .i64 (b+(1))) (a.length:Int)).bind fun c=>
(getI a c).bind fun d=>
some (d)
abbrev ρ336:=(Int)
def g336 (n:Nat) (a b:TP):Option ρ336:=
some (IntKind.wrap .i64 ((IntKind.wrap .i64 (a.X*b.Y))-(IntKind.wrap .i64 (a.Y*b.X))))
abbrev ρ299:=(Int)
def g299 (n:Nat) (a c d:TP):Option ρ299:=
(g242 n c a).bind fun e=>
(g242 n d a).bind fun f=>
(g336 n e f).bind fun b=>
bif (decide (b>(0))) then (
some (1)) else (
bif (decide (b<(0))) then (
some (-1)) else (
some (0)))
abbrev ρ339:=(Bool)
def g339 (n:Nat) (a b c:TP):Option ρ339:=
bif (decide ((if b.X<a.X then b.X else a.X)≤c.X)) then (
bif (decide (c.X≤(if b.X>a.X then b.X else a.X))) then (
bif (decide ((if b.Y<a.Y then b.Y else a.Y)≤c.Y)) then (
some (decide (c.Y≤(if b.Y>a.Y then b.Y else a.Y)))) else (
some (false))) else (
some (false))) else (
some (false))
abbrev ρ306:=(Bool)
def g306 (n:Nat) (a b c:TP):Option ρ306:=
(g299 n a b c).bind fun d=>
bif (d==(0)) then (
(g339 n a b c).bind fun e=>
some (e)) else (
some (false))
abbrev ρ246:=(Int)
def S246_0 (n:Nat) (g:List TP) (k i h e b a:Int):Option ((Int×Int)⊕ρ246):=
bif (decide (a<i)) then (
(getI g a).bind fun c=>
(g300 n g a).bind fun d=>
(g306 n c d (⟨h,e⟩:TP)).bind fun j=>
bif j then (
some (.inr (0))) else (
bif (!((decide (c.Y>e))==(decide (d.Y>e)))) then (
(g299 n c d (⟨h,e⟩:TP)).bind fun f=>
bif (decide (d.Y>c.Y)) then (
bif (decide (f>(0))) then (
some (.inl ((IntKind.wrap .i64 (0-b)),(IntKind.wrap .i64 (a+(1)))))) else (
bif (decide (d.Y<c.Y)) then (
bif (decide (f<(0))) then (
some (.inl ((IntKind.wrap .i64 (0-b)),(IntKind.wrap .i64 (a+(1)))))) else (
some (.inl (b,(IntKind.wrap .i64 (a+(1))))))) else (
some (.inl (b,(IntKind.wrap .i64 (a+(1)))))))) else (
bif (decide (d.Y<c.Y)) then (
bif (decide (f<(0))) then (
some (.inl ((IntKind.wrap .i64 (0-b)),(IntKind.wrap .i64 (a+(1)))))) else (
some (.inl (b,(IntKind.wrap .i64 (a+(1))))))) else (
some (.inl (b,(IntKind.wrap .i64 (a+(1)))))))) else (
some (.inl (b,(IntKind.wrap .i64 (a+(1)))))))) else (
some (.inr (b)))
def g246 (n:Nat) (a:List TP) (b:TP):Option ρ246:=
iterO (fun y:Int×Int=>S246_0 n a (0) (a.length:Int) b.X b.Y y.1 y.2) n ((-1),(0))
abbrev ρ183:=(Bool)
def g183 (n:Nat) (a:TVolume) (c:TP) (b:Int):Option ρ183:=
bif (decide (b≥a.Low)) then (
bif (decide (b<a.High)) then (
(g246 n a.Area c).bind fun d=>
some (decide (d≥(0)))) else (
some (false))) else (
some (false))
abbrev ρ182:=(Bool)
def g182 (n:Nat) (a:TVolume) (b c d:Int):Option ρ182:=
(g183 n a (⟨b,c⟩:TP) d).bind fun e=>
some (e)
abbrev ρ245:=(Int)
def S245_0 (n:Nat) (b:List TVolume) (c d e h c7 a:Int):Option ((Int)⊕ρ245):=
bif (decide (a<c7)) then (
(getI b a).bind fun f=>
(g182 n f c d e).bind fun g=>
bif g then (
some (.inr (a))) else (
some (.inl (IntKind.wrap .i64 (a+(1)))))) else (
some (.inr (-1)))
def g245 (n:Nat) (a:List TVolume) (b c d:Int):Option ρ245:=
iterO (fun y:Int=>S245_0 n a b c d (0) (a.length:Int) y) n (0)
abbrev ρ181:=(Bool)
def g181 (n:Nat) (a:List TVolume) (b c d:Int):Option ρ181:=
(g245 n a b c d).bind fun e=>
some (decide (e≥(0)))
abbrev ρ180:=(Bool)
def g180 (n:Nat) (a:TSector) (b c d:Int):Option ρ180:=
(g181 n a.Room b c d).bind fun e=>
some (e)
abbrev ρ179:=(Int)
def S179_0 (n:Nat) (b:List TSector) (c d e h c7 a:Int):Option ((Int)⊕ρ179):=
bif (decide (a<c7)) then (
(getI b a).bind fun f=>
(g180 n f c d e).bind fun g=>
bif g then (
some (.inr (a))) else (
some (.inl (IntKind.wrap .i64 (a+(1)))))) else (
some (.inr (-1)))
def g179 (n:Nat) (a:List TSector) (b c d:Int):Option ρ179:=
iterO (fun y:Int=>S179_0 n a b c d (0) (a.length:Int) y) n (0)
abbrev ρ112:=(Int)
def g112 (n:Nat) (b:List TSector) (a:TP) (c:Int):Option ρ112:=
(g179 n b a.X a.Y c).bind fun d=>
some (d)
abbrev ρ49:=(Bool)
def S49_0 (n:Nat) (e:Bool) (c:List UInt8) (d a:Int):Option ((Int)⊕ρ49):=
bif (decide (a<d)) then (
(getI c a).bind fun b=>
bif (decide ((b.toNat:Int)≥(65))) then (
bif (decide ((b.toNat:Int)≤(90))) then (
some (.inl (IntKind.wrap .i64 (a+(1))))) else (
bif (decide (a>(0))) then (
bif (decide ((b.toNat:Int)≥(48))) then (
bif (!(decide ((b.toNat:Int)≤(57)))) then (
some (.inr (false))) else (
some (.inl (IntKind.wrap .i64 (a+(1)))))) else (
some (.inr (false)))) else (
some (.inr (false))))) else (
bif (decide (a>(0))) then (
bif (decide ((b.toNat:Int)≥(48))) then (
bif (!(decide ((b.toNat:Int)≤(57)))) then (
some (.inr (false))) else (
some (.inl (IntKind.wrap .i64 (a+(1)))))) else (
some (.inr (false)))) else (
some (.inr (false))))) else (
some (.inr (true)))
def g49 (n:Nat) (a:ByteArray):Option ρ49:=
bif (decide ((a.size:Int)<(1))) then (
some (false)) else (
bif (decide ((a.size:Int)>(8))) then (
some (false)) else (
(roomO a.size 1).bind fun b=>
iterO (fun y:Int=>S49_0 n false (a.data.toList) ((a.data.toList).length:Int) y) n (0)))
abbrev ρ172:=(Bool)
def g172 (n:Nat) (a:ByteArray):Option ρ172:=
(g49 n a).bind fun b=>
some (b)
abbrev ρ303:=(Bool)
def g303 (n:Nat) (a b c d:TP):Option ρ303:=
(g299 n a b c).bind fun e=>
(g299 n a b d).bind fun f=>
bif (decide ((IntKind.wrap .i64 (e*f))<(0))) then (
(g299 n c d a).bind fun g=>
(g299 n c d b).bind fun h=>
some (decide ((IntKind.wrap .i64 (g*h))<(0)))) else (
some (false))
abbrev ρ301:=(Bool)
def g301 (n:Nat) (a b c d:TP):Option ρ301:=
(g303 n a b c d).bind fun e=>
bif e then (
some (true)) else (
(g306 n a b c).bind fun f=>
bif f then (
some (true)) else (
(g306 n a b d).bind fun g=>
bif g then (
some (true)) else (
(g306 n c d a).bind fun h=>
bif h then (
some (true)) else (
(g306 n c d b).bind fun i=>
some (i)))))
abbrev ρ302:=(Int)
def S302_0 (n:Nat) (b:List TP) (g c6 c a:Int):Option ((Int×Int)⊕ρ302):=
bif (decide (a<c6)) then (
(getI b a).bind fun d=>
(g300 n b a).bind fun e=>
(g336 n d e).bind fun f=>
some (.inl ((IntKind.wrap .i64 (c+f)),(IntKind.wrap .i64 (a+(1)))))) else (
some (.inr (c)))
def g302 (n:Nat) (a:List TP):Option ρ302:=
iterO (fun y:Int×Int=>S302_0 n a (0) (a.length:Int) y.1 y.2) n ((0),(0))
abbrev ρ243:=(Int)
def S243_1_0 (n:Nat) (b:List TP) (j c3 c k a:Int):Option ((Int)⊕((Int)⊕ρ243)):=
bif (decide (a<c3)) then (
(modO (IntKind.wrap .i64 (a+(1))) c3).bind fun d=>
bif (d !=c) then (
(getI b c).bind fun e=>
(g300 n b c).bind fun f=>
(getI b a).bind fun g=>
(g300 n b a).bind fun h=>
(g301 n e f g h).bind fun i=>
bif i then (
some (.inr (.inr (3)))) else (
some (.inl (IntKind.wrap .i64 (a+(1)))))) else (
some (.inl (IntKind.wrap .i64 (a+(1)))))) else (
some (.inr (.inl (IntKind.wrap .i64 (c+(1))))))
def S243_1 (n:Nat) (b:List TP) (d c3 c a:Int):Option ((Int)⊕ρ243):=
bif (decide (a<c)) then (
(getI b a).bind fun e=>
(g300 n b a).bind fun f=>
(modO (IntKind.wrap .i64 (a+(2))) c3).bind fun g=>
(getI b g).bind fun h=>
(g299 n e f h).bind fun i=>
bif (i==(0)) then (
some (.inr (3))) else (
iterO (fun y:Int=>S243_1_0 n b d c3 a c y) n (IntKind.wrap .i64 (a+(2))))) else (
(g302 n b).bind fun j=>
bif (decide (j≤(0))) then (
some (.inr (3))) else (
some (.inr (0))))
def S243_0 (n:Nat) (a:List TP) (d c3 b:Int):Option ((Int)⊕ρ243):=
bif (decide (b<c3)) then (
(getI a b).bind fun e=>
(g70 n e).bind fun c=>
bif (c !=(0)) then (
some (.inr (c))) else (
some (.inl (IntKind.wrap .i64 (b+(1)))))) else (
((iterO (fun y:Int=>S243_1 n a d c3 (a.length:Int) y) n (0)).map Sum.inr))
def g243 (n:Nat) (a:List TP):Option ρ243:=
bif (decide ((a.length:Int)>(16))) then (
some (2)) else (
bif (decide ((a.length:Int)<(3))) then (
some (3)) else (
iterO (fun y:Int=>S243_0 n a (0) (a.length:Int) y) n (0)))
abbrev ρ173:=(Int)
def g173 (n:Nat) (a:TVolume):Option ρ173:=
(g243 n a.Area).bind fun b=>
bif (b !=(0)) then (
some (b)) else (
bif (decide (a.Low<(0))) then (
some (4)) else (
bif (decide (a.High>(60001))) then (
some (4)) else (
bif (decide (a.Low≥a.High)) then (
some (4)) else (
some (0)))))
abbrev ρ175:=(Bool)
def g175 (n:Nat) (a:TSector) (b:ByteArray) (c:List TVolume):Option ρ175:=
some ((a.Name).toList==(b).toList)
def S179_0_x1 (n:Nat) (b:List TSector) (c:ByteArray) (d:List TVolume) (g c7 a:Int):Option ((Int)⊕ρ179):=
bif (decide (a<c7)) then (
(getI b a).bind fun e=>
(g175 n e c d).bind fun f=>
bif f then (
some (.inr (a))) else (
some (.inl (IntKind.wrap .i64 (a+(1)))))) else (
some (.inr (-1)))
def g179_1 (n:Nat) (a:List TSector) (b:ByteArray) (c:List TVolume):Option ρ179:=
iterO (fun y:Int=>S179_0_x1 n a b c (0) (a.length:Int) y) n (0)
abbrev ρ174:=(Bool)
def g174 (n:Nat) (a:List TSector) (b:ByteArray) (c:List TVolume):Option ρ174:=
(g179_1 n a b c).bind fun d=>
some (decide (d≥(0)))
abbrev ρ304:=((List TP))
def S304_0 (n:Nat) (d:List TP) (c7 b:Int) (c:List TP):Option ((Int×List TP)⊕ρ304):=
bif (decide (b<c7)) then (
(getI d b).bind fun a=>
(roomO (c.length+([(⟨IntKind.wrap .i64 ((2)*a.X),IntKind.wrap .i64 ((2)*a.Y)⟩:TP)]:List TP).length) 16).bind fun e=>
some (.inl ((IntKind.wrap .i64 (b+(1))),(c++([(⟨IntKind.wrap .i64 ((2)*a.X),IntKind.wrap .i64 ((2)*a.Y)⟩:TP)]:List TP))))) else (
some (.inr (c)))
def g304 (n:Nat) (a:List TP):Option ρ304:=
iterO (fun y:Int×List TP=>S304_0 n a (a.length:Int) y.1 y.2) n ((0),[])
abbrev ρ338:=(Int)
def g338 (n:Nat) (c d:TP) (a b:Int):Option ρ338:=
(g277 n (⟨a,b⟩:TP) c).bind fun e=>
(g277 n (⟨a,b⟩:TP) d).bind fun f=>
some (IntKind.wrap .i64 (e-f))
abbrev ρ305:=(Bool)
def S305_0_1_0 (n:Nat) (r b:List TP) (s:Bool) (e t u f g h i j k l u101:Int) (a:List TP):Option ((Int×List TP)⊕((Int×List TP)⊕((Int)⊕ρ305))):=
bif (decide (u101<f)) then (
(getI b u101).bind fun c=>
(g300 n b u101).bind fun d=>
(g306 n c d (⟨k,l⟩:TP)).bind fun m=>
bif m then (
(g242 n (⟨i,j⟩:TP) (⟨g,h⟩:TP)).bind fun o=>
(g242 n d c).bind fun p=>
(g326 n o p).bind fun q=>
bif (decide (q>(0))) then (
some (.inr (.inr (.inr (true))))) else (
some (.inl ((IntKind.wrap .i64 (u101+(1))),a)))) else (
some (.inl ((IntKind.wrap .i64 (u101+(1))),a)))) else (
some (.inr (.inl ((IntKind.wrap .i64 (e+(1))),a))))
def S305_0_1 (n:Nat) (j c:List TP) (k:Bool) (l d m o p q a:Int) (b:List TP):Option ((Int×List TP)⊕((Int)⊕ρ305)):=
bif (decide (a<(b.length:Int))) then (
(getI b a).bind fun r=>
(getI b (IntKind.wrap .i64 (a-(1)))).bind fun s=>
bif (decide (r=s)) then (
some (.inl ((IntKind.wrap .i64 (a+(1))),b))) else (
(getI b a).bind fun e=>
(getI b (IntKind.wrap .i64 (a-(1)))).bind fun f=>
(getI b a).bind fun g=>
(getI b (IntKind.wrap .i64 (a-(1)))).bind fun h=>
(g246 n c (⟨IntKind.wrap .i64 (Int.tdiv (IntKind.wrap .i64 (e.X+f.X)) (2)),IntKind.wrap .i64 (Int.tdiv (IntKind.wrap .i64 (g.Y+h.Y)) (2))⟩:TP)).bind fun i=>
bif (i==(1)) then (
some (.inr (.inr (true)))) else (
bif (i==(0)) then (
iterO (fun y:Int×List TP=>S305_0_1_0 n j c k a l d (c.length:Int) m o p q (IntKind.wrap .i64 (Int.tdiv (IntKind.wrap .i64 (e.X+f.X)) (2))) (IntKind.wrap .i64 (Int.tdiv (IntKind.wrap .i64 (g.Y+h.Y)) (2))) y.1 y.2) n ((0),b)) else (
some (.inl ((IntKind.wrap .i64 (a+(1))),b)))))) else (
some (.inr (.inl (IntKind.wrap .i64 (d+(1))))))
def S305_0_0 (n:Nat) (i f:List TP) (j:Bool) (k l m c d g h a:Int) (b:List TP):Option ((Int×List TP)⊕((Int)⊕ρ305)):=
bif (decide (a<m)) then (
(getI f a).bind fun e=>
(g306 n (⟨c,d⟩:TP) (⟨g,h⟩:TP) e).bind fun o=>
bif o then (
(roomO (b.length+([e]:List TP).length) 16).bind fun q=>
some (.inl ((IntKind.wrap .i64 (a+(1))),(b++([e]:List TP))))) else (
some (.inl ((IntKind.wrap .i64 (a+(1))),b)))) else (
(sortO (fun x y=>g338 n x y c d) b).bind fun p=>
((iterO (fun y:Int×List TP=>S305_0_1 n i f j k l c d g h y.1 y.2) n ((1),p)).map Sum.inr))
def S305_0 (n:Nat) (b e:List TP) (g:Bool) (f a:Int):Option ((Int)⊕ρ305):=
bif (decide (a<f)) then (
(getI b a).bind fun c=>
(g300 n b a).bind fun d=>
iterO (fun y:Int×List TP=>S305_0_0 n b e g f a (e.length:Int) c.X c.Y d.X d.Y y.1 y.2) n ((0),([c,d]:List TP))) else (
some (.inr (false)))
def g305 (n:Nat) (a b:List TP):Option ρ305:=
iterO (fun y:Int=>S305_0 n a b false (a.length:Int) y) n (0)
abbrev ρ244:=(Bool×Int)
def S244_1_0 (n:Nat) (c d:List TP) (k:Bool) (c5 b l e a:Int):Option ((Int)⊕((Int)⊕ρ244)):=
bif (decide (a<e)) then (
(getI c b).bind fun f=>
(g300 n c b).bind fun g=>
(getI d a).bind fun h=>
(g300 n d a).bind fun i=>
(g303 n f g h i).bind fun j=>
bif j then (
some (.inr (.inr (true,(0))))) else (
some (.inl (IntKind.wrap .i64 (a+(1)))))) else (
some (.inr (.inl (IntKind.wrap .i64 (b+(1))))))
def S244_1 (n:Nat) (b a:List TP) (g:Bool) (c5 c d:Int):Option ((Int)⊕ρ244):=
bif (decide (d<c)) then (
iterO (fun y:Int=>S244_1_0 n b a g c5 d c (a.length:Int) y) n (0)) else (
(g304 n b).bind fun e=>
(g304 n a).bind fun f=>
(g305 n e f).bind fun h=>
bif h then (
some (.inr (true,(0)))) else (
(g305 n f e).bind fun i=>
some (.inr (i,(0)))))
def S244_0 (n:Nat) (b d:List TP) (e:Bool) (c5:Int) (f:List (List TP)) (g a:Int):Option ((Int)⊕ρ244):=
bif (decide (a<g)) then (
(getI f a).bind fun h=>
(g243 n h).bind fun c=>
bif (c !=(0)) then (
some (.inr (false,c))) else (
some (.inl (IntKind.wrap .i64 (a+(1)))))) else (
((iterO (fun y:Int=>S244_1 n b d e c5 (b.length:Int) y) n (0)).map Sum.inr))
def g244 (n:Nat) (a b:List TP):Option ρ244:=
iterO (fun y:Int=>S244_0 n a b false (0) ([a,b]:List (List TP)) (([a,b]:List (List TP)).length:Int) y) n (0)
abbrev ρ176:=(Bool×Int)
def S176_0 (n:Nat) (m:Bool) (c5:Int) (h:List TVolume) (i:Int) (j:List TP) (c d:Int) (k:List TP) (e f b:Int):Option ((Int)⊕ρ176):=
bif (decide (b<i)) then (
(getI h b).bind fun l=>
(g173 n l).bind fun g=>
bif (g !=(0)) then (
some (.inr (false,g))) else (
some (.inl (IntKind.wrap .i64 (b+(1)))))) else (
(g244 n j k).bind fun a=>
bif (a.2==(0)) then (
bif a.1 then (
some (.inr ((decide ((if e>c then e else c)<(if f<d then f else d))),a.2))) else (
some (.inr (false,a.2)))) else (
some (.inr (false,a.2))))
def g176 (n:Nat) (a b:TVolume):Option ρ176:=
iterO (fun y:Int=>S176_0 n false (0) ([a,b]:List TVolume) (([a,b]:List TVolume).length:Int) a.Area a.Low a.High b.Area b.Low b.High y) n (0)
abbrev ρ110:=(Int)
def S110_0_0 (n:Nat) (e:List TSector) (j c k:Int) (c41:List TVolume) (c42:Int) (f:ByteArray) (a:Int) (b:List TVolume):Option ((Int×List TVolume)⊕((Int×List TVolume)⊕ρ110)):=
bif (decide (a<c42)) then (
(getI c41 a).bind fun g=>
(g173 n g).bind fun d=>
bif (d !=(0)) then (
some (.inr (.inr (d)))) else (
some (.inl ((IntKind.wrap .i64 (a+(1))),b)))) else (
(sliceO e none (some c)).bind fun h=>
(g174 n h f c41).bind fun i=>
bif i then (
some (.inr (.inr (7)))) else (
(neO c41).bind fun l=>
(roomO (b.length+c41.length) 40).bind fun m=>
some (.inr (.inl ((IntKind.wrap .i64 (c+(1))),(b++c41))))))
def S110_1_0 (n:Nat) (j:Int) (k:List TVolume) (l b:Int) (c:List TVolume) (d:Int) (e:List TP) (f g a:Int):Option ((Int)⊕((Int)⊕ρ110)):=
bif (decide (a<d)) then (
(getI c a).bind fun h=>
(g176 n (⟨e,f,g⟩:TVolume) h).bind fun i=>
bif i.1 then (
some (.inr (.inr (19)))) else (
some (.inl (IntKind.wrap .i64 (a+(1)))))) else (
some (.inr (.inl (IntKind.wrap .i64 (b+(1))))))
def S110_1 (n:Nat) (f:Int) (b:List TVolume) (d a:Int):Option ((Int)⊕ρ110):=
bif (decide (a<d)) then (
(getI b a).bind fun c=>
(sliceO b none (some a)).bind fun e=>
iterO (fun y:Int=>S110_1_0 n f b d a e (e.length:Int) c.Area c.Low c.High y) n (0)) else (
some (.inr (0)))
def S110_0 (n:Nat) (d:List TSector) (e f b:Int) (c:List TVolume):Option ((Int×List TVolume)⊕ρ110):=
bif (decide (b<f)) then (
(getI d b).bind fun a=>
(g172 n a.Name).bind fun g=>
bif (!g) then (
some (.inr (3))) else (
bif ((a.Room.length:Int)==(0)) then (
some (.inr (8))) else (
bif (decide ((a.Room.length:Int)>(4))) then (
some (.inr (2))) else (
iterO (fun y:Int×List TVolume=>S110_0_0 n d e b f a.Room (a.Room.length:Int) a.Name y.1 y.2) n ((0),c))))) else (
((iterO (fun y:Int=>S110_1 n e c (c.length:Int) y) n (0)).map Sum.inr))
def g110 (n:Nat) (a:List TSector):Option ρ110:=
bif (decide ((a.length:Int)>(12))) then (
some (2)) else (
iterO (fun y:Int×List TVolume=>S110_0 n a (0) (a.length:Int) y.1 y.2) n ((0),[]))
abbrev ρ35:=(Bool)
def g35 (n:Nat) (a:List TTubeNode) (b:Int):Option ρ35:=
(g36 n a).bind fun c=>
bif (c !=(0)) then (
some (true)) else (
(getI a (IntKind.wrap .i64 ((a.length:Int)-(1)))).bind fun d=>
(getI a (0)).bind fun e=>
some (decide ((IntKind.wrap .i64 (d.Node_Time-e.Node_Time))>b)))
abbrev ρ109:=(Int)
def S109_0 (n:Nat) (b:List (List TTubeNode)) (c f c7 a:Int):Option ((Int)⊕ρ109):=
bif (decide (a<c7)) then (
(getI b a).bind fun d=>
(g35 n d c).bind fun e=>
bif e then (
some (.inr (a))) else (
some (.inl (IntKind.wrap .i64 (a+(1)))))) else (
some (.inr (-1)))
def g109 (n:Nat) (a:List (List TTubeNode)) (b:Int):Option ρ109:=
iterO (fun y:Int=>S109_0 n a b (0) (a.length:Int) y) n (0)
abbrev ρ34:=(Bool)
def g34 (n:Nat) (a:List (List TTubeNode)) (b:Int):Option ρ34:=
(g109 n a b).bind fun c=>
some (decide (c≥(0)))
abbrev ρ5:=(Bool)
def g5 (n:Nat) (a:List (List TTubeNode)) (b c:Int):Option ρ5:=
bif (decide ((a.length:Int)≤b)) then (
(g34 n a c).bind fun d=>
some (!d)) else (
some (false))
abbrev ρ37:=(Int)
def S37_0 (n:Nat) (f:Int) (c:List (List TTubeNode)) (d a:Int):Option ((Int)⊕ρ37):=
bif (decide (a<d)) then (
(getI c a).bind fun e=>
(g36 n e).bind fun b=>
bif (b !=(0)) then (
some (.inr (b))) else (
some (.inl (IntKind.wrap .i64 (a+(1)))))) else (
some (.inr (0)))
def g37 (n:Nat) (c:List TSector) (a:List (List TTubeNode)):Option ρ37:=
(g110 n c).bind fun b=>
bif (b !=(0)) then (
some (b)) else (
bif (decide ((a.length:Int)>(24))) then (
some (2)) else (
iterO (fun y:Int=>S37_0 n (0) a (a.length:Int) y) n (0)))
abbrev ρ38:=(Int)
def g38 (n:Nat) (a:TSpan):Option ρ38:=
bif (decide (a.From<(0))) then (
some (12)) else (
bif (decide (a.To>(200001))) then (
some (12)) else (
bif (decide (a.From≥a.To)) then (
some (12)) else (
bif (decide ((IntKind.wrap .i64 (a.To-a.From))>(2000))) then (
some (2)) else (
some (0)))))
abbrev ρ40:=((List Int)×Int)
def S40_0 (n:Nat) (f:List TSector) (g c7:Int) (h:List (List TTubeNode)) (i c b:Int) (a:List Int):Option ((Int×Int×List Int)⊕ρ40):=
bif (decide (b<i)) then (
(getI h b).bind fun j=>
(g71 n j g).bind fun d=>
bif (d.2 !=(0)) then (
some (.inl (c,IntKind.wrap .i64 (b+(1)),a))) else (
(g112 n f (⟨d.1.Node_At_X,d.1.Node_At_Y⟩:TP) d.1.Node_Height).bind fun e=>
bif (decide (e≥(0))) then (
(getI a e).bind fun k=>
(getI a e).bind fun l=>
some (.inl (c,IntKind.wrap .i64 (b+(1)),(a.set ((e:Int).toNat) (IntKind.wrap .i64 (k+(1))))))) else (
some (.inl ((IntKind.wrap .i64 (c+(1))),IntKind.wrap .i64 (b+(1)),a))))) else (
some (.inr (a,c)))
def g40 (n:Nat) (a:List TSector) (b:List (List TTubeNode)) (c:Int):Option ρ40:=
(makeO (a.length:Int) 8).bind fun d=>
iterO (fun y:Int×Int×List Int=>S40_0 n a c (0) b (b.length:Int) y.1 y.2.1 y.2.2) n ((0),0,(List.replicate d (0)))
abbrev ρ6:=((List Int)×(List Int)×Int)
def S6_0_0 (n:Nat) (j:List TSector) (k:List (List TTubeNode)) (c8 d:Int) (e:List Int) (f l m a:Int) (b c:List Int):Option ((Int×List Int×List Int)⊕((Int×List Int×List Int)⊕ρ6)):=
bif (decide (a<f)) then (
(getI e a).bind fun g=>
(getI b a).bind fun h=>
bif (decide (g>h)) then (
(getI e a).bind fun i=>
(getI b a).bind fun o=>
(getI c a).bind fun p=>
some (.inl ((IntKind.wrap .i64 (a+(1))),b.set ((a:Int).toNat) i,(c.set ((a:Int).toNat) d)))) else (
some (.inl ((IntKind.wrap .i64 (a+(1))),b,c)))) else (
some (.inr (.inl ((IntKind.wrap .i64 (d+(1))),b,c))))
def S6_0 (n:Nat) (b:List TSector) (c:List (List TTubeNode)) (c8 h d a:Int) (e f:List Int):Option ((Int×List Int×List Int)⊕ρ6):=
bif (decide (a<d)) then (
(g40 n b c a).bind fun g=>
iterO (fun y:Int×List Int×List Int=>S6_0_0 n b c c8 a g.1 (g.1.length:Int) h d y.1 y.2.1 y.2.2) n ((0),e,f)) else (
some (.inr (e,f,(0))))
def g6 (n:Nat) (b:List TSector) (c:List (List TTubeNode)) (a:TSpan):Option ρ6:=
(g37 n b c).bind fun d=>
bif (d !=(0)) then (
some ([],[],d)) else (
(g38 n a).bind fun e=>
bif (e !=(0)) then (
some ([],[],e)) else (
(makeO (b.length:Int) 8).bind fun f=>
(repO ([a.From]:List Int) (b.length:Int)).bind fun g=>
iterO (fun y:Int×List Int×List Int=>S6_0 n b c (0) a.From a.To y.1 y.2.1 y.2.2) n (a.From,List.replicate f (0),g)))
abbrev ρ7:=(Int)
def g7 (n:Nat) (a b:Int):Option ρ7:=
(modO (IntKind.wrap .u64 a) (IntKind.wrap .u64 b)).bind fun c=>
some (IntKind.wrap .i64 c)
abbrev ρ42:=(TP)
def g42 (n:Nat) (a b:TP):Option ρ42:=
some (⟨IntKind.wrap .i64 (a.X+b.X),IntKind.wrap .i64 (a.Y+b.Y)⟩:TP)
abbrev ρ8:=((List TTubeNode)×Int)
def S8_0 (n:Nat) (h c7 i j k b:Int) (c:List TTubeNode):Option ((Int×List TTubeNode)⊕ρ8):=
bif (decide (b<i)) then (
(getI c b).bind fun f=>
(g42 n (⟨f.Node_At_X,f.Node_At_Y⟩:TP) (⟨j,k⟩:TP)).bind fun d=>
(getI c b).bind fun a=>
(getI (c.set ((b:Int).toNat) (⟨a.Node_Time,d.X,d.Y,a.Node_Height,a.Radius,a.Band⟩:TTubeNode)) b).bind fun l=>
(getI (c.set ((b:Int).toNat) (⟨a.Node_Time,d.X,d.Y,a.Node_Height,a.Radius,a.Band⟩:TTubeNode)) b).bind fun e=>
some (.inl ((IntKind.wrap .i64 (b+(1))),((c.set ((b:Int).toNat) (⟨a.Node_Time,d.X,d.Y,a.Node_Height,a.Radius,a.Band⟩:TTubeNode)).set ((b:Int).toNat) (⟨IntKind.wrap .i64 (l.Node_Time+h),e.Node_At_X,e.Node_At_Y,e.Node_Height,e.Radius,e.Band⟩:TTubeNode))))) else (
(g36 n c).bind fun g=>
bif (g !=(0)) then (
some (.inr ([],g))) else (
some (.inr (c,(0)))))
def g8 (n:Nat) (b:List TTubeNode) (a:TP) (c:Int):Option ρ8:=
(g36 n b).bind fun d=>
bif (d !=(0)) then (
some ([],d)) else (
bif (decide (a.X<(-2000000))) then (
some ([],(4))) else (
bif (decide (a.X>(2000000))) then (
some ([],(4))) else (
bif (decide (a.Y<(-2000000))) then (
some ([],(4))) else (
bif (decide (a.Y>(2000000))) then (
some ([],(4))) else (
bif (decide (c<(-200000))) then (
some ([],(4))) else (
bif (decide (c>(200000))) then (
some ([],(4))) else (
(roomO b.length 48).bind fun e=>
iterO (fun y:Int×List TTubeNode=>S8_0 n c (0) (b.length:Int) a.X a.Y y.1 y.2) n ((0),b))))))))
abbrev ρ9:=(Bool)
def S9_0 (n:Nat) (b c:List Int) (g:Bool) (d a:Int):Option ((Int)⊕ρ9):=
bif (decide (a<d)) then (
(getI b a).bind fun e=>
(getI c a).bind fun f=>
bif (e !=f) then (
some (.inr (false))) else (
some (.inl (IntKind.wrap .i64 (a+(1)))))) else (
some (.inr (true)))
def g9 (n:Nat) (a b:List Int):Option ρ9:=
bif ((a.length:Int) !=(b.length:Int)) then (
some (false)) else (
iterO (fun y:Int=>S9_0 n a b false (a.length:Int) y) n (0))
abbrev ρ4:=Bool
def g4 (n:Nat):Option ρ4:=some true
abbrev ρ3:=(Bool)
def S3_1 (n:Nat) (b:Int) (c8:Bool) (c d:List Int) (e a:Int):Option ((Int)⊕ρ3):=
bif (decide (a<e)) then (
(getI d a).bind fun f=>
(getI c a).bind fun g=>
bif (f !=(IntKind.wrap .i64 (g+b))) then (
some (.inr (false))) else (
some (.inl (IntKind.wrap .i64 (a+(1)))))) else (
some (.inr (true)))
def S3_0 (n:Nat) (h:List TSector) (a:Int) (c8:Bool) (c9 c:List Int) (o:Int) (i:List (List TTubeNode)) (j k g d:Int) (e:List (List TTubeNode)):Option ((Int×List (List TTubeNode))⊕ρ3):=
bif (decide (d<j)) then (
(getI i d).bind fun l=>
(g8 n l (⟨0,0⟩:TP) a).bind fun f=>
bif (f.2 !=(0)) then (
some (.inr (true))) else (
(roomO (e.length+([f.1]:List (List TTubeNode)).length) 24).bind fun p=>
some (.inl ((IntKind.wrap .i64 (d+(1))),(e++([f.1]:List (List TTubeNode))))))) else (
(g6 n h e (⟨IntKind.wrap .i64 (k+a),IntKind.wrap .i64 (g+a)⟩:TSpan)).bind fun b=>
bif (decide ((IntKind.wrap .i64 (g+a))>(200000))) then (
some (.inr (true))) else (
bif (b.2.2 !=(0)) then (
some (.inr (false))) else (
(g9 n c9 b.1).bind fun m=>
bif (!m) then (
some (.inr (false))) else (
bif ((c.length:Int) !=(b.2.1.length:Int)) then (
some (.inr (false))) else (
((iterO (fun y:Int=>S3_1 n a c8 c b.2.1 (c.length:Int) y) n (0)).map Sum.inr))))))
def g3 (n:Nat) (d:List TSector) (b:List (List TTubeNode)) (a:TSpan) (e:Int):Option ρ3:=
(g4 n).bind fun f=>
bif (!f) then (
some (false)) else (
(g5 n b (5) (300)).bind fun g=>
bif (!g) then (
some (true)) else (
(g6 n d b a).bind fun c=>
bif (c.2.2 !=(0)) then (
some (true)) else (
bif (decide ((IntKind.wrap .i64 (a.To-a.From))>(300))) then (
some (true)) else (
(g7 n e (200)).bind fun h=>
iterO (fun y:Int×List (List TTubeNode)=>S3_0 n d h false c.1 c.2.1 c.2.2 b (b.length:Int) a.From a.To y.1 y.2) n ((0),[])))))
end Go.Proofs.YtlenkbgeomojnaaGreatDoor
