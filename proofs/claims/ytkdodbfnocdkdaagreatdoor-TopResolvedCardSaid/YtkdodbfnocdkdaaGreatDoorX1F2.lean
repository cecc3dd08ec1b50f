/- A part. -/
import Derived.Test.YtkdodbfnocdkdaaGreatDoorX1T
set_option linter.unusedVariables false
set_option maxRecDepth 100000
set_option maxHeartbeats 4000000
namespace Go.Proofs.YtkdodbfnocdkdaaGreatDoor
noncomputable def Auw:Code:=((Tryz.f346).body).getD .skip
noncomputable def At9 (R:AV→Mem→Prop):A1→St→Prop:=Cm pg Tryz.f346 R
noncomputable def S3 (z n:Nat) (K:Nat→Prop):Prop:=
Ex pg .mul 345 4602678819172646912 z n fun a=>
Ex pg .sub 345 4607182418800017408 a (n+1) fun b=>
Ex pg .mul 345 z z (n+4) fun c=>
pX 6 1 (O4 9) (0) fun d=>
Ex pg .mul 345 d z (n+8) fun e=>
pX 6 1 (O4 9) (1) fun f=>
Ex pg .add 345 e f (n+11) fun g=>
Ex pg .mul 345 g z (n+13) fun h=>
pX 6 1 (O4 9) (2) fun i=>
Ex pg .add 345 h i (n+16) fun j=>
Ex pg .mul 345 j z (n+18) fun k=>
pX 6 1 (O4 9) (3) fun l=>
Ex pg .add 345 k l (n+21) fun m=>
Ex pg .mul 345 m z (n+23) fun o=>
pX 6 1 (O4 9) (4) fun p=>
Ex pg .add 345 o p (n+26) fun q=>
Ex pg .mul 345 q z (n+28) fun r=>
pX 6 1 (O4 9) (5) fun s=>
Ex pg .add 345 r s (n+31) fun t=>
Ex pg .mul 345 c t (n+32) fun u=>
Ex pg .add 345 b u (n+33) K
noncomputable def lN (y z n:Nat) (K:Nat→Prop):Prop:=
Ex pg .mul 345 y z n fun a=>
pX 6 1 (O4 10) (0) fun b=>
Ex pg .mul 345 b z (n+4) fun c=>
pX 6 1 (O4 10) (1) fun d=>
Ex pg .add 345 c d (n+7) fun e=>
Ex pg .mul 345 e z (n+9) fun f=>
pX 6 1 (O4 10) (2) fun g=>
Ex pg .add 345 f g (n+12) fun h=>
Ex pg .mul 345 h z (n+14) fun i=>
pX 6 1 (O4 10) (3) fun j=>
Ex pg .add 345 i j (n+17) fun k=>
Ex pg .mul 345 k z (n+19) fun l=>
pX 6 1 (O4 10) (4) fun m=>
Ex pg .add 345 l m (n+22) fun o=>
Ex pg .mul 345 o z (n+24) fun p=>
pX 6 1 (O4 10) (5) fun q=>
Ex pg .add 345 p q (n+27) fun r=>
Ex pg .mul 345 a r (n+28) fun s=>
Ex pg .add 345 y s (n+29) K
noncomputable def Aml (a:Nat) (R:AV→Mem→Prop):Prop:=
bQ pg .eql 345 4 a 0 2 fun b1=>
bif b1 then (
As R [] [some (AV.sc (.float .f64 a))]) else (
A2 pg KK.gl [] 327 [AV.sc (.float .f64 a)] fun v2=>
Ha v2 fun b3=>
bif b3 then (
As R [] [some (AV.sc (.float .f64 a))]) else (
A2 pg KK.gl [] 328 [AV.sc (.float .f64 a),Aa (0)] fun v4=>
Ha v4 fun b5=>
bif b5 then (
A2 pg KK.gl [] 330 [] fun v6=>
Hc v6 fun r7=>
As R [] [some (AV.sc (.float .f64 r7))]) else (
bQ pg .lss 345 4 a 0 139 fun b9=>
bif b9 then (
V7 pg 345 a 141 fun h=>
bQ pg .geq 345 4 h 4737786807993761792 148 fun ah=>
bif ah then (
A2 pg KK.gl [] 355 [AV.sc (.float .f64 h)] fun ai=>
E7 ai fun aj Is=>
D3 aj fun i=>
Hc Is fun b=>
bif (decide (i>(3))) then (
Ex pg .mul 345 b b 229 fun s=>
bif ((IntKind.wrap .u64 (i-(4)))==(1)) then (
S3 s 236 fun ak=>
As R [] [some (AV.sc (.float .f64 ak))]) else (
bif ((IntKind.wrap .u64 (i-(4)))==(2)) then (
S3 s 238 fun al=>
As R [] [some (AV.sc (.float .f64 al))]) else (
lN b s 240 fun am=>
As R [] [some (AV.sc (.float .f64 am))]))) else (
Ex pg .mul 345 b b 223 fun t=>
bif (i==(1)) then (
S3 t 230 fun an=>
V7 pg 345 an 267 fun ao=>
As R [] [some (AV.sc (.float .f64 ao))]) else (
bif (i==(2)) then (
S3 t 232 fun ap=>
V7 pg 345 ap 269 fun aq=>
As R [] [some (AV.sc (.float .f64 aq))]) else (
lN b t 234 fun ar=>
V7 pg 345 ar 267 fun au=>
As R [] [some (AV.sc (.float .f64 au))])))) else (
Ex pg .mul 345 h 4608412980311869571 150 fun av=>
A4 (Ce pg (.convert 345 322 (.tmp 0)) 322 [AV.sc (.float .f64 av)] (Al []) 151) fun aw=>
D3 aw fun o=>
A4 (Ce pg (.convert 322 345 (.tmp 0)) 345 [AV.sc (.int .u64 o)] (Al []) 154) fun ax=>
Hc ax fun p=>
A4 (Ce pg (.binOp .and 322 (.tmp 0) (.tmp 1) 322) 322 [AV.sc (.int .u64 o),AV.sc (.int .u64 (1))] (Al []) 157) fun ay=>
D3 ay fun az=>
bif (az==(1)) then (
Ex pg .add 345 p 4607182418800017408 163 fun u=>
A4 (Ce pg (.binOp .and 322 (.tmp 0) (.tmp 1) 322) 322 [AV.sc (.int .u64 (IntKind.wrap .u64 (o+(1)))),AV.sc (.int .u64 (7))] (Al []) 166) fun ba=>
D3 ba fun j=>
Ex pg .mul 345 u 4605249456957292544 170 fun bb=>
Ex pg .sub 345 h bb 171 fun bc=>
Ex pg .mul 345 u 4495793288086814720 173 fun bd=>
Ex pg .sub 345 bc bd 174 fun be=>
Ex pg .mul 345 u 4388835458085048688 176 fun bf=>
Ex pg .sub 345 be bf 177 fun c=>
bif (decide (j>(3))) then (
Ex pg .mul 345 c c 189 fun v=>
bif ((IntKind.wrap .u64 (j-(4)))==(1)) then (
S3 v 196 fun bg=>
As R [] [some (AV.sc (.float .f64 bg))]) else (
bif ((IntKind.wrap .u64 (j-(4)))==(2)) then (
S3 v 198 fun bh=>
As R [] [some (AV.sc (.float .f64 bh))]) else (
lN c v 200 fun bi=>
As R [] [some (AV.sc (.float .f64 bi))]))) else (
Ex pg .mul 345 c c 183 fun w=>
bif (j==(1)) then (
S3 w 190 fun bj=>
V7 pg 345 bj 227 fun bk=>
As R [] [some (AV.sc (.float .f64 bk))]) else (
bif (j==(2)) then (
S3 w 192 fun bl=>
V7 pg 345 bl 229 fun bm=>
As R [] [some (AV.sc (.float .f64 bm))]) else (
lN c w 194 fun bn=>
V7 pg 345 bn 227 fun bo=>
As R [] [some (AV.sc (.float .f64 bo))])))) else (
A4 (Ce pg (.binOp .and 322 (.tmp 0) (.tmp 1) 322) 322 [AV.sc (.int .u64 o),AV.sc (.int .u64 (7))] (Al []) 160) fun bp=>
D3 bp fun k=>
Ex pg .mul 345 p 4605249456957292544 164 fun bq=>
Ex pg .sub 345 h bq 165 fun br=>
Ex pg .mul 345 p 4495793288086814720 167 fun bs=>
Ex pg .sub 345 br bs 168 fun bt=>
Ex pg .mul 345 p 4388835458085048688 170 fun bu=>
Ex pg .sub 345 bt bu 171 fun d=>
bif (decide (k>(3))) then (
Ex pg .mul 345 d d 183 fun x=>
bif ((IntKind.wrap .u64 (k-(4)))==(1)) then (
S3 x 190 fun bv=>
As R [] [some (AV.sc (.float .f64 bv))]) else (
bif ((IntKind.wrap .u64 (k-(4)))==(2)) then (
S3 x 192 fun bw=>
As R [] [some (AV.sc (.float .f64 bw))]) else (
lN d x 194 fun bz=>
As R [] [some (AV.sc (.float .f64 bz))]))) else (
Ex pg .mul 345 d d 177 fun y=>
bif (k==(1)) then (
S3 y 184 fun ca=>
V7 pg 345 ca 221 fun cc=>
As R [] [some (AV.sc (.float .f64 cc))]) else (
bif (k==(2)) then (
S3 y 186 fun cd=>
V7 pg 345 cd 223 fun ce=>
As R [] [some (AV.sc (.float .f64 ce))]) else (
lN d y 188 fun cg=>
V7 pg 345 cg 221 fun ch=>
As R [] [some (AV.sc (.float .f64 ch))])))))) else (
bQ pg .geq 345 4 a 4737786807993761792 144 fun ci=>
bif ci then (
A2 pg KK.gl [] 355 [AV.sc (.float .f64 a)] fun cj=>
E7 cj fun ck cl=>
D3 ck fun l=>
Hc cl fun e=>
bif (decide (l>(3))) then (
Ex pg .mul 345 e e 225 fun z=>
bif ((IntKind.wrap .u64 (l-(4)))==(1)) then (
S3 z 232 fun cm=>
V7 pg 345 cm 269 fun cn=>
As R [] [some (AV.sc (.float .f64 cn))]) else (
bif ((IntKind.wrap .u64 (l-(4)))==(2)) then (
S3 z 234 fun co=>
V7 pg 345 co 271 fun cp=>
As R [] [some (AV.sc (.float .f64 cp))]) else (
lN e z 236 fun cq=>
V7 pg 345 cq 269 fun cs=>
As R [] [some (AV.sc (.float .f64 cs))]))) else (
Ex pg .mul 345 e e 219 fun aa=>
bif (l==(1)) then (
S3 aa 226 fun ct=>
As R [] [some (AV.sc (.float .f64 ct))]) else (
bif (l==(2)) then (
S3 aa 228 fun cu=>
As R [] [some (AV.sc (.float .f64 cu))]) else (
lN e aa 230 fun cv=>
As R [] [some (AV.sc (.float .f64 cv))])))) else (
Ex pg .mul 345 a 4608412980311869571 146 fun cw=>
A4 (Ce pg (.convert 345 322 (.tmp 0)) 322 [AV.sc (.float .f64 cw)] (Al []) 147) fun cx=>
D3 cx fun q=>
A4 (Ce pg (.convert 322 345 (.tmp 0)) 345 [AV.sc (.int .u64 q)] (Al []) 150) fun cy=>
Hc cy fun r=>
A4 (Ce pg (.binOp .and 322 (.tmp 0) (.tmp 1) 322) 322 [AV.sc (.int .u64 q),AV.sc (.int .u64 (1))] (Al []) 153) fun cz=>
D3 cz fun da=>
bif (da==(1)) then (
Ex pg .add 345 r 4607182418800017408 159 fun ab=>
A4 (Ce pg (.binOp .and 322 (.tmp 0) (.tmp 1) 322) 322 [AV.sc (.int .u64 (IntKind.wrap .u64 (q+(1)))),AV.sc (.int .u64 (7))] (Al []) 162) fun db=>
D3 db fun m=>
Ex pg .mul 345 ab 4605249456957292544 166 fun dc=>
Ex pg .sub 345 a dc 167 fun dd=>
Ex pg .mul 345 ab 4495793288086814720 169 fun de=>
Ex pg .sub 345 dd de 170 fun df=>
Ex pg .mul 345 ab 4388835458085048688 172 fun dg=>
Ex pg .sub 345 df dg 173 fun f=>
bif (decide (m>(3))) then (
Ex pg .mul 345 f f 185 fun ad=>
bif ((IntKind.wrap .u64 (m-(4)))==(1)) then (
S3 ad 192 fun dh=>
V7 pg 345 dh 229 fun di=>
As R [] [some (AV.sc (.float .f64 di))]) else (
bif ((IntKind.wrap .u64 (m-(4)))==(2)) then (
S3 ad 194 fun dj=>
V7 pg 345 dj 231 fun dk=>
As R [] [some (AV.sc (.float .f64 dk))]) else (
lN f ad 196 fun dl=>
V7 pg 345 dl 229 fun dm=>
As R [] [some (AV.sc (.float .f64 dm))]))) else (
Ex pg .mul 345 f f 179 fun ae=>
bif (m==(1)) then (
S3 ae 186 fun dn=>
As R [] [some (AV.sc (.float .f64 dn))]) else (
bif (m==(2)) then (
S3 ae 188 fun dp=>
As R [] [some (AV.sc (.float .f64 dp))]) else (
lN f ae 190 fun dq=>
As R [] [some (AV.sc (.float .f64 dq))])))) else (
A4 (Ce pg (.binOp .and 322 (.tmp 0) (.tmp 1) 322) 322 [AV.sc (.int .u64 q),AV.sc (.int .u64 (7))] (Al []) 156) fun ds=>
D3 ds fun n=>
Ex pg .mul 345 r 4605249456957292544 160 fun dt=>
Ex pg .sub 345 a dt 161 fun du=>
Ex pg .mul 345 r 4495793288086814720 163 fun dv=>
Ex pg .sub 345 du dv 164 fun dw=>
Ex pg .mul 345 r 4388835458085048688 166 fun dx=>
Ex pg .sub 345 dw dx 167 fun g=>
bif (decide (n>(3))) then (
Ex pg .mul 345 g g 179 fun af=>
bif ((IntKind.wrap .u64 (n-(4)))==(1)) then (
S3 af 186 fun dy=>
V7 pg 345 dy 223 fun dz=>
As R [] [some (AV.sc (.float .f64 dz))]) else (
bif ((IntKind.wrap .u64 (n-(4)))==(2)) then (
S3 af 188 fun ea=>
V7 pg 345 ea 225 fun ec=>
As R [] [some (AV.sc (.float .f64 ec))]) else (
lN g af 190 fun ed=>
V7 pg 345 ed 223 fun ee=>
As R [] [some (AV.sc (.float .f64 ee))]))) else (
Ex pg .mul 345 g g 173 fun ag=>
bif (n==(1)) then (
S3 ag 180 fun eg=>
As R [] [some (AV.sc (.float .f64 eg))]) else (
bif (n==(2)) then (
S3 ag 182 fun eh=>
As R [] [some (AV.sc (.float .f64 eh))]) else (
lN g ag 184 fun ej=>
As R [] [some (AV.sc (.float .f64 ej))])))))))))
noncomputable def At0:Code:=((Tryz.f316).body).getD .skip
noncomputable def Avo (R:AV→Mem→Prop):A1→St→Prop:=Cm pg Tryz.f316 R
noncomputable def Amh (a:Nat) (R:AV→Mem→Prop):Prop:=
A2 pg KK.gl [] 346 [AV.sc (.float .f64 a)] fun b=>
Hc b fun c=>
As R [] [some (AV.sc (.float .f64 c))]
noncomputable def At3:Code:=((Tryz.f315).body).getD .skip
noncomputable def Aud (R:AV→Mem→Prop):A1→St→Prop:=Cm pg Tryz.f315 R
noncomputable def Aoy (d:Nat) (R:AV→Mem→Prop):Prop:=
A2 pg KK.gl [] 343 [AV.sc (.float .f64 d)] fun e=>
D3 e fun b=>
A4 (Ce pg (.binOp .shr 322 (.tmp 0) (.tmp 1) 262) 322 [AV.sc (.int .u64 b),AV.sc (.int .u64 (52))] (Al []) 68) fun f=>
D3 f fun g=>
A4 (Ce pg (.binOp .and 262 (.tmp 0) (.tmp 1) 262) 262 [AV.sc (.int .u64 g),AV.sc (.int .u64 (2047))] (Al []) 69) fun h=>
D3 h fun a=>
bif (decide (a<(1023))) then (
A4 (Ce pg (.binOp .and 322 (.tmp 0) (.tmp 1) 322) 322 [AV.sc (.int .u64 b),AV.sc (.int .u64 (9223372036854775808))] (Al []) 74) fun i=>
D3 i fun c=>
bif (a==(1022)) then (
A4 (Ce pg (.binOp .or 322 (.tmp 0) (.tmp 1) 322) 322 [AV.sc (.int .u64 c),AV.sc (.int .u64 (4607182418800017408))] (Al []) 79) fun j=>
D3 j fun k=>
A2 pg KK.gl [] 344 [AV.sc (.int .u64 k)] fun l=>
Hc l fun m=>
As R [] [some (AV.sc (.float .f64 m))]) else (
A2 pg KK.gl [] 344 [AV.sc (.int .u64 c)] fun n=>
Hc n fun o=>
As R [] [some (AV.sc (.float .f64 o))])) else (
bif (decide (a<(1075))) then (
A4 (Ce pg (.binOp .shr 322 (.tmp 0) (.tmp 1) 262) 322 [AV.sc (.int .u64 (2251799813685248)),AV.sc (.int .u64 (IntKind.wrap .u64 (a-(1023))))] (Al []) 80) fun p=>
D3 p fun q=>
A4 (Ce pg (.binOp .shr 322 (.tmp 0) (.tmp 1) 262) 322 [AV.sc (.int .u64 (4503599627370495)),AV.sc (.int .u64 (IntKind.wrap .u64 (a-(1023))))] (Al []) 85) fun r=>
D3 r fun s=>
A4 (Ce pg (.binOp .andNot 322 (.tmp 0) (.tmp 1) 322) 322 [AV.sc (.int .u64 (IntKind.wrap .u64 (b+q))),AV.sc (.int .u64 s)] (Al []) 86) fun t=>
D3 t fun u=>
A2 pg KK.gl [] 344 [AV.sc (.int .u64 u)] fun v=>
Hc v fun w=>
As R [] [some (AV.sc (.float .f64 w))]) else (
A2 pg KK.gl [] 344 [AV.sc (.int .u64 b)] fun x=>
Hc x fun y=>
As R [] [some (AV.sc (.float .f64 y))]))
noncomputable def Auv:Code:=((Tryz.f261).body).getD .skip
noncomputable def Atx (R:AV→Mem→Prop):A1→St→Prop:=Cm pg Tryz.f261 R
noncomputable def An0 (a:Int) (R:AV→Mem→Prop):Prop:=
A2 pg KK.gl [] 120 [Aa a] fun b=>
Ag b fun c=>
A4 (Ce pg (.convert 3 345 (.tmp 0)) 345 [Aa c] (Al []) 66) fun d=>
Hc d fun e=>
Ex pg .mul 345 e 4614256656552045848 67 fun f=>
Ex pg .quo 345 f 4656722014701092864 68 fun g=>
A2 pg KK.gl [] 316 [AV.sc (.float .f64 g)] fun h=>
Hc h fun i=>
Ex pg .mul 345 4670232813583204352 i 133 fun j=>
A2 pg KK.gl [] 315 [AV.sc (.float .f64 j)] fun k=>
Hc k fun l=>
A4 (Ce pg (.convert 345 3 (.tmp 0)) 3 [AV.sc (.float .f64 l)] (Al []) 198) fun m=>
Ag m fun n=>
As R [] [some (Aa n)]
noncomputable def Au9:Code:=((Tryz.f262).body).getD .skip
noncomputable def Avv (R:AV→Mem→Prop):A1→St→Prop:=Cm pg Tryz.f262 R
noncomputable def Alf (a:Int) (R:AV→Mem→Prop):Prop:=
A2 pg KK.gl [] 120 [Aa a] fun b=>
Ag b fun c=>
A2 pg KK.gl [] 261 [Aa (IntKind.wrap .i64 (c+(1024)))] fun d=>
Ag d fun e=>
As R [] [some (Aa e)]
noncomputable def Aty:Code:=((Tryz.f331).body).getD .skip
noncomputable def Avh (R:AV→Mem→Prop):A1→St→Prop:=Cm pg Tryz.f331 R
noncomputable def Anl (a:Nat) (R:AV→Mem→Prop):Prop:=
A2 pg KK.gl [] 343 [AV.sc (.float .f64 a)] fun b=>
D3 b fun c=>
A4 (Ce pg (.convert 322 2 (.tmp 0)) 2 [AV.sc (.int .u64 c)] (Al []) 66) fun d=>
Ag d fun e=>
As R [] [some (Ai (decide (e<(0))))]
noncomputable def Av3:Code:=((Tryz.f332).body).getD .skip
noncomputable def Ave (R:AV→Mem→Prop):A1→St→Prop:=Cm pg Tryz.f332 R
noncomputable def Apd (a b:Nat) (R:AV→Mem→Prop):Prop:=
A2 pg KK.gl [] 343 [AV.sc (.float .f64 a)] fun c=>
D3 c fun d=>
A4 (Ce pg (.binOp .andNot 322 (.tmp 0) (.tmp 1) 322) 322 [AV.sc (.int .u64 d),AV.sc (.int .u64 (9223372036854775808))] (Al []) 66) fun e=>
D3 e fun f=>
A2 pg KK.gl [] 343 [AV.sc (.float .f64 b)] fun g=>
D3 g fun h=>
A4 (Ce pg (.binOp .and 322 (.tmp 0) (.tmp 1) 322) 322 [AV.sc (.int .u64 h),AV.sc (.int .u64 (9223372036854775808))] (Al []) 132) fun i=>
D3 i fun j=>
A4 (Ce pg (.binOp .or 322 (.tmp 0) (.tmp 1) 322) 322 [AV.sc (.int .u64 f),AV.sc (.int .u64 j)] (Al []) 133) fun k=>
D3 k fun l=>
A2 pg KK.gl [] 344 [AV.sc (.int .u64 l)] fun m=>
Hc m fun n=>
As R [] [some (AV.sc (.float .f64 n))]
noncomputable def Aun:Code:=((Tryz.f362).body).getD .skip
noncomputable def Awc (R:AV→Mem→Prop):A1→St→Prop:=Cm pg Tryz.f362 R
noncomputable def Al2 (b:Nat) (R:AV→Mem→Prop):Prop:=
Ex pg .mul 345 b b 3 fun a=>
Ex pg .mul 345 13829429103926125972 a 7 fun c=>
Ex pg .add 345 c 13848613196940411002 8 fun d=>
Ex pg .mul 345 d a 10 fun e=>
Ex pg .add 345 e 13858350711815275123 11 fun f=>
Ex pg .mul 345 f a 13 fun g=>
Ex pg .add 345 g 13861719834326579749 14 fun h=>
Ex pg .mul 345 h a 16 fun i=>
Ex pg .add 345 i 13857635882265799822 17 fun j=>
Ex pg .mul 345 a j 18 fun k=>
Ex pg .add 345 a 4627690253511319612 20 fun l=>
Ex pg .mul 345 l a 22 fun m=>
Ex pg .add 345 m 4640010388282866213 23 fun n=>
Ex pg .mul 345 n a 25 fun o=>
Ex pg .add 345 o 4646322940342877755 26 fun p=>
Ex pg .mul 345 p a 28 fun q=>
Ex pg .add 345 q 4647246694406179306 29 fun r=>
Ex pg .mul 345 r a 31 fun s=>
Ex pg .add 345 s 4641049159275471596 32 fun t=>
Ex pg .quo 345 k t 33 fun u=>
Ex pg .mul 345 b u 37 fun v=>
Ex pg .add 345 v b 39 fun w=>
As R [] [some (AV.sc (.float .f64 w))]
noncomputable def Avu:Code:=((Tryz.f358).body).getD .skip
noncomputable def Av7 (R:AV→Mem→Prop):A1→St→Prop:=Cm pg Tryz.f358 R
noncomputable def Ana (a:Nat) (R:AV→Mem→Prop):Prop:=
bQ pg .leq 345 4 a 4604119971053405471 2 fun b=>
bif b then (
A2 pg KK.gl [] 362 [AV.sc (.float .f64 a)] fun c=>
Hc c fun d=>
As R [] [some (AV.sc (.float .f64 d))]) else (
bQ pg .gtr 345 4 a 4612618744449965542 4 fun e=>
bif e then (
Ex pg .quo 345 4607182418800017408 a 6 fun f=>
A2 pg KK.gl [] 362 [AV.sc (.float .f64 f)] fun g=>
Hc g fun h=>
Ex pg .sub 345 4609753056924675352 h 71 fun i=>
Ex pg .add 345 i 4364452196894661639 72 fun j=>
As R [] [some (AV.sc (.float .f64 j))]) else (
Ex pg .sub 345 a 4607182418800017408 6 fun k=>
Ex pg .add 345 a 4607182418800017408 8 fun l=>
Ex pg .quo 345 k l 9 fun m=>
A2 pg KK.gl [] 362 [AV.sc (.float .f64 m)] fun n=>
Hc n fun o=>
Ex pg .add 345 4605249457297304856 o 74 fun p=>
Ex pg .add 345 p 4359948597267291143 75 fun q=>
As R [] [some (AV.sc (.float .f64 q))]))
noncomputable def Avl:Code:=((Tryz.f352).body).getD .skip
noncomputable def Avk (R:AV→Mem→Prop):A1→St→Prop:=Cm pg Tryz.f352 R
noncomputable def Ama (a:Nat) (R:AV→Mem→Prop):Prop:=
bQ pg .eql 345 4 a 0 2 fun b=>
bif b then (
As R [] [some (AV.sc (.float .f64 a))]) else (
bQ pg .gtr 345 4 a 0 4 fun c=>
bif c then (
A2 pg KK.gl [] 358 [AV.sc (.float .f64 a)] fun d=>
Hc d fun e=>
As R [] [some (AV.sc (.float .f64 e))]) else (
V7 pg 345 a 6 fun f=>
A2 pg KK.gl [] 358 [AV.sc (.float .f64 f)] fun g=>
Hc g fun h=>
V7 pg 345 h 71 fun i=>
As R [] [some (AV.sc (.float .f64 i))]))
noncomputable def Aul:Code:=((Tryz.f333).body).getD .skip
noncomputable def Av2 (R:AV→Mem→Prop):A1→St→Prop:=Cm pg Tryz.f333 R
noncomputable def Ao5 (a:Nat) (R:AV→Mem→Prop):Prop:=
A2 pg KK.gl [] 352 [AV.sc (.float .f64 a)] fun b=>
Hc b fun c=>
As R [] [some (AV.sc (.float .f64 c))]
noncomputable def Aui:Code:=((Tryz.f300).body).getD .skip
noncomputable def Avz (R:AV→Mem→Prop):A1→St→Prop:=Cm pg Tryz.f300 R
noncomputable def Alj (a b:Nat) (R:AV→Mem→Prop):Prop:=
A2 pg KK.gl [] 327 [AV.sc (.float .f64 a)] fun d=>
Ha d fun e=>
bif e then (
A2 pg KK.gl [] 330 [] fun f=>
Hc f fun g=>
As R [] [some (AV.sc (.float .f64 g))]) else (
A2 pg KK.gl [] 327 [AV.sc (.float .f64 b)] fun h=>
Ha h fun i=>
bif i then (
A2 pg KK.gl [] 330 [] fun j=>
Hc j fun k=>
As R [] [some (AV.sc (.float .f64 k))]) else (
bQ pg .eql 345 4 a 0 135 fun l=>
bif l then (
bQ pg .geq 345 4 b 0 138 fun m=>
bif m then (
A2 pg KK.gl [] 331 [AV.sc (.float .f64 b)] fun n=>
Ha n fun o=>
bif (!o) then (
A2 pg KK.gl [] 332 [AV.sc (.float .f64 0),AV.sc (.float .f64 a)] fun p=>
Hc p fun q=>
As R [] [some (AV.sc (.float .f64 q))]) else (
A2 pg KK.gl [] 332 [AV.sc (.float .f64 4614256656552045848),AV.sc (.float .f64 a)] fun r=>
Hc r fun s=>
As R [] [some (AV.sc (.float .f64 s))])) else (
A2 pg KK.gl [] 332 [AV.sc (.float .f64 4614256656552045848),AV.sc (.float .f64 a)] fun t=>
Hc t fun u=>
As R [] [some (AV.sc (.float .f64 u))])) else (
bQ pg .eql 345 4 b 0 138 fun v=>
bif v then (
A2 pg KK.gl [] 332 [AV.sc (.float .f64 4609753056924675352),AV.sc (.float .f64 a)] fun w=>
Hc w fun x=>
As R [] [some (AV.sc (.float .f64 x))]) else (
A2 pg KK.gl [] 328 [AV.sc (.float .f64 b),Aa (0)] fun y=>
Ha y fun z=>
bif z then (
A2 pg KK.gl [] 328 [AV.sc (.float .f64 b),Aa (1)] fun aa=>
Ha aa fun ab=>
bif ab then (
A2 pg KK.gl [] 328 [AV.sc (.float .f64 a),Aa (0)] fun ad=>
Ha ad fun ae=>
bif ae then (
A2 pg KK.gl [] 332 [AV.sc (.float .f64 4605249457297304856),AV.sc (.float .f64 a)] fun af=>
Hc af fun ag=>
As R [] [some (AV.sc (.float .f64 ag))]) else (
A2 pg KK.gl [] 332 [AV.sc (.float .f64 0),AV.sc (.float .f64 a)] fun ah=>
Hc ah fun ai=>
As R [] [some (AV.sc (.float .f64 ai))])) else (
A2 pg KK.gl [] 328 [AV.sc (.float .f64 a),Aa (0)] fun aj=>
Ha aj fun ak=>
bif ak then (
A2 pg KK.gl [] 332 [AV.sc (.float .f64 4612488097114038738),AV.sc (.float .f64 a)] fun al=>
Hc al fun am=>
As R [] [some (AV.sc (.float .f64 am))]) else (
A2 pg KK.gl [] 332 [AV.sc (.float .f64 4614256656552045848),AV.sc (.float .f64 a)] fun an=>
Hc an fun ao=>
As R [] [some (AV.sc (.float .f64 ao))]))) else (
A2 pg KK.gl [] 328 [AV.sc (.float .f64 a),Aa (0)] fun ap=>
Ha ap fun aq=>
bif aq then (
A2 pg KK.gl [] 332 [AV.sc (.float .f64 4609753056924675352),AV.sc (.float .f64 a)] fun ar=>
Hc ar fun au=>
As R [] [some (AV.sc (.float .f64 au))]) else (
Ex pg .quo 345 a b 274 fun av=>
A2 pg KK.gl [] 333 [AV.sc (.float .f64 av)] fun aw=>
Hc aw fun c=>
bQ pg .lss 345 4 b 0 341 fun ax=>
bif ax then (
bQ pg .leq 345 4 c 0 343 fun ay=>
bif ay then (
Ex pg .add 345 c 4614256656552045848 345 fun az=>
As R [] [some (AV.sc (.float .f64 az))]) else (
Ex pg .sub 345 c 4614256656552045848 345 fun ba=>
As R [] [some (AV.sc (.float .f64 ba))])) else (
As R [] [some (AV.sc (.float .f64 c))])))))))
noncomputable def Auk:Code:=((Tryz.f243).body).getD .skip
noncomputable def Atv (R:AV→Mem→Prop):A1→St→Prop:=Cm pg Tryz.f243 R
noncomputable def An2 (a b:Nat) (R:AV→Mem→Prop):Prop:=
A2 pg KK.gl [] 300 [AV.sc (.float .f64 a),AV.sc (.float .f64 b)] fun c=>
Hc c fun d=>
As R [] [some (AV.sc (.float .f64 d))]
noncomputable def Av9:Code:=((Tryz.f242).body).getD .skip
noncomputable def Avi (R:AV→Mem→Prop):A1→St→Prop:=Cm pg Tryz.f242 R
noncomputable def Aop (a:Nat) (R:AV→Mem→Prop):Prop:=
A2 pg KK.gl [] 297 [AV.sc (.float .f64 a)] fun b=>
Hc b fun c=>
As R [] [some (AV.sc (.float .f64 c))]
noncomputable def Avd:Code:=((Tryz.f244).body).getD .skip
noncomputable def Avs (R:AV→Mem→Prop):A1→St→Prop:=Cm pg Tryz.f244 R
noncomputable def Aqb (a:Int) (R:AV→Mem→Prop):Prop:=
A2 pg KK.gl ((0,some ⟨[Aa (0),Aa (0)],46⟩)::[]) 261 [Aa a] fun b=>
Ag b fun c=>
A2 pg KK.gl ((0,some ⟨[Aa (0),Aa (0)],46⟩)::[]) 262 [Aa a] fun d=>
Ag d fun e=>
A4 (Mb [Aa (0),Aa (0)] [(0,1),(1,1)] [(0,(Aa c)),(1,(Aa e))]) fun f=>
B4 pg (Al ((0,some ⟨[Aa (0),Aa (0)],46⟩)::[])) 46 (AV.ptr 0 0) f fun g d5=>
As R (Ad ((0,some ⟨[Aa (0),Aa (0)],46⟩)::[]) d5) [(D7 pg (Al (Ad ((0,some ⟨[Aa (0),Aa (0)],46⟩)::[]) d5)) 46 (AV.ptr 0 0)).map (·.1)]
noncomputable def Au3:Code:=((Tryz.f245).body).getD .skip
noncomputable def Auq (R:AV→Mem→Prop):A1→St→Prop:=Cm pg Tryz.f245 R
noncomputable def Aon (a b c d:Int) (R:AV→Mem→Prop):Prop:=
As R ((1,some ⟨[Aa c,Aa d],46⟩)::(0,some ⟨[Aa a,Aa b],46⟩)::[]) [some (Aa (IntKind.wrap .i64 ((IntKind.wrap .i64 (b*c))-(IntKind.wrap .i64 (a*d)))))]
noncomputable def Al5:Code:=((Tryz.f177).body).getD .skip
noncomputable def Arz (R:AV→Mem→Prop):A1→St→Prop:=Cm pg Tryz.f177 R
noncomputable def tU:Code:=Dy Al5 0
noncomputable def jI (R:AV→Mem→Prop):A1→St→Prop:=Dz pg KK 103 0 Al5 0 (Arz R)
noncomputable def Aqt (R:AV→Mem→Prop) (N0:St→Prop):A1→St→Prop:=Dw N0 (jI R)
def Ajf (a b c d e f:Int) (m:Mem):St:=⟨[(1,(AV.ptr 0 0)),(2,(Aa a)),(3,(Aa b)),(4,(Aa c)),(50,(Aa d))],((0,some ⟨[Aa e,Aa f],46⟩)::m),100000⟩
noncomputable def wV (t u d a b c:Int) (m:Mem) (R:AV→Mem→Prop) (N0:St→Prop):Prop:=
bif (decide (a<(4096))) then (
A2 pg KK.gl ((0,some ⟨[Aa b,Aa c],46⟩)::m) 120 [Aa (IntKind.wrap .i64 (d+a))] fun v=>
Ag v fun e=>
bif ((Int.tmod a (2))==(1)) then (
A2 pg KK.gl ((0,some ⟨[Aa b,Aa c],46⟩)::m) 120 [Aa (IntKind.wrap .i64 (d-a))] fun w=>
Ag w fun j=>
A2 pg KK.gl ((0,some ⟨[Aa b,Aa c],46⟩)::m) 244 [Aa j] fun x=>
I3 x fun y z=>
Ag y fun f=>
Ag z fun g=>
A2 pg KK.gl ((0,some ⟨[Aa b,Aa c],46⟩)::m) 244 [Aa (IntKind.wrap .i64 (j+(1)))] fun aa=>
I3 aa fun ab ad=>
Ag ab fun k=>
Ag ad fun l=>
A2 pg KK.gl ((100274,some ⟨[Aa k,Aa l],46⟩)::(100273,some ⟨[Aa f,Aa g],46⟩)::(100274,some ⟨[Aa (0),Aa (0)],46⟩)::(100273,some ⟨[Aa (0),Aa (0)],46⟩)::(0,some ⟨[Aa b,Aa c],46⟩)::m) 245 [AV.agg [Aa f,Aa g],AV.agg [Aa b,Aa c]] fun ae=>
Ag ae fun p=>
A2 pg KK.gl ((100274,some ⟨[Aa k,Aa l],46⟩)::(100273,some ⟨[Aa f,Aa g],46⟩)::(100274,some ⟨[Aa (0),Aa (0)],46⟩)::(100273,some ⟨[Aa (0),Aa (0)],46⟩)::(0,some ⟨[Aa b,Aa c],46⟩)::m) 245 [AV.agg [Aa b,Aa c],AV.agg [Aa k,Aa l]] fun af=>
Ag af fun q=>
bif (decide (p≥(0))) then (
bif (decide (q>(0))) then (
bif (decide ((IntKind.wrap .i64 ((IntKind.wrap .i64 (f*b))+(IntKind.wrap .i64 (g*c))))>(0))) then (
bif (decide (p≤q)) then (
As R ((100274,some ⟨[Aa k,Aa l],46⟩)::(100273,some ⟨[Aa f,Aa g],46⟩)::(100274,some ⟨[Aa (0),Aa (0)],46⟩)::(100273,some ⟨[Aa (0),Aa (0)],46⟩)::(0,some ⟨[Aa b,Aa c],46⟩)::m) [some (Aa j),some (Aa (0))]) else (
A2 pg KK.gl ((100274,some ⟨[Aa k,Aa l],46⟩)::(100273,some ⟨[Aa f,Aa g],46⟩)::(100274,some ⟨[Aa (0),Aa (0)],46⟩)::(100273,some ⟨[Aa (0),Aa (0)],46⟩)::(0,some ⟨[Aa b,Aa c],46⟩)::m) 120 [Aa (IntKind.wrap .i64 (j+(1)))] fun ag=>
Ag ag fun ah=>
As R ((100274,some ⟨[Aa k,Aa l],46⟩)::(100273,some ⟨[Aa f,Aa g],46⟩)::(100274,some ⟨[Aa (0),Aa (0)],46⟩)::(100273,some ⟨[Aa (0),Aa (0)],46⟩)::(0,some ⟨[Aa b,Aa c],46⟩)::m) [some (Aa ah),some (Aa (0))])) else (
N0 ⟨[(1,(AV.ptr 0 0)),(2,(Aa t)),(3,(Aa u)),(4,(Aa d)),(50,(Aa (IntKind.wrap .i64 (a+(1))))),(51,(Ai (decide (a<(4096))))),(52,(Aa a)),(5,(Aa a)),(53,(Aa d)),(54,(Aa a)),(55,(Aa (IntKind.wrap .i64 (d+a)))),(56,(Aa e)),(6,(Aa j)),(57,(Aa a)),(58,(Aa (Int.tmod a (2)))),(59,(Ai ((Int.tmod a (2))==(1)))),(60,(Aa d)),(61,(Aa a)),(62,(Aa (IntKind.wrap .i64 (d-a)))),(63,(Aa j)),(64,(Aa j)),(65,(AV.agg [Aa f,Aa g])),(66,(Aa j)),(67,(Aa (IntKind.wrap .i64 (j+(1))))),(68,(AV.agg [Aa k,Aa l])),(7,(AV.ptr 100273 0)),(8,(AV.ptr 100274 0)),(69,(AV.agg [Aa f,Aa g])),(70,(AV.agg [Aa b,Aa c])),(71,(Aa p)),(72,(AV.agg [Aa b,Aa c])),(73,(AV.agg [Aa k,Aa l])),(74,(Aa q)),(9,(Aa p)),(10,(Aa q)),(75,(Aa p)),(76,(Ai (decide (p≥(0))))),(77,(Ai true)),(78,(Aa q)),(79,(Ai (decide (q>(0))))),(80,(Ai (decide (q>(0))))),(81,(Ai true)),(82,(AV.ptr 100273 0)),(83,(Aa f)),(84,(AV.ptr 0 0)),(85,(Aa b)),(86,(Aa (IntKind.wrap .i64 (f*b)))),(87,(AV.ptr 100273 1)),(88,(Aa g)),(89,(AV.ptr 0 1)),(90,(Aa c)),(91,(Aa (IntKind.wrap .i64 (g*c)))),(92,(Aa (IntKind.wrap .i64 ((IntKind.wrap .i64 (f*b))+(IntKind.wrap .i64 (g*c)))))),(93,(Ai (decide ((IntKind.wrap .i64 ((IntKind.wrap .i64 (f*b))+(IntKind.wrap .i64 (g*c))))>(0))))),(94,(Ai (decide ((IntKind.wrap .i64 ((IntKind.wrap .i64 (f*b))+(IntKind.wrap .i64 (g*c))))>(0))))),(102,(Aa (IntKind.wrap .i64 (a+(1)))))],((100274,some ⟨[Aa k,Aa l],46⟩)::(100273,some ⟨[Aa f,Aa g],46⟩)::(100274,some ⟨[Aa (0),Aa (0)],46⟩)::(100273,some ⟨[Aa (0),Aa (0)],46⟩)::(0,some ⟨[Aa b,Aa c],46⟩)::m),100307⟩)) else (
N0 ⟨[(1,(AV.ptr 0 0)),(2,(Aa t)),(3,(Aa u)),(4,(Aa d)),(50,(Aa (IntKind.wrap .i64 (a+(1))))),(51,(Ai (decide (a<(4096))))),(52,(Aa a)),(5,(Aa a)),(53,(Aa d)),(54,(Aa a)),(55,(Aa (IntKind.wrap .i64 (d+a)))),(56,(Aa e)),(6,(Aa j)),(57,(Aa a)),(58,(Aa (Int.tmod a (2)))),(59,(Ai ((Int.tmod a (2))==(1)))),(60,(Aa d)),(61,(Aa a)),(62,(Aa (IntKind.wrap .i64 (d-a)))),(63,(Aa j)),(64,(Aa j)),(65,(AV.agg [Aa f,Aa g])),(66,(Aa j)),(67,(Aa (IntKind.wrap .i64 (j+(1))))),(68,(AV.agg [Aa k,Aa l])),(7,(AV.ptr 100273 0)),(8,(AV.ptr 100274 0)),(69,(AV.agg [Aa f,Aa g])),(70,(AV.agg [Aa b,Aa c])),(71,(Aa p)),(72,(AV.agg [Aa b,Aa c])),(73,(AV.agg [Aa k,Aa l])),(74,(Aa q)),(9,(Aa p)),(10,(Aa q)),(75,(Aa p)),(76,(Ai (decide (p≥(0))))),(77,(Ai true)),(78,(Aa q)),(79,(Ai (decide (q>(0))))),(80,(Ai (decide (q>(0))))),(81,(Ai false)),(82,(AV.Bn [])),(83,(AV.Bn [])),(84,(AV.Bn [])),(85,(AV.Bn [])),(86,(AV.Bn [])),(87,(AV.Bn [])),(88,(AV.Bn [])),(89,(AV.Bn [])),(90,(AV.Bn [])),(91,(AV.Bn [])),(92,(AV.Bn [])),(93,(AV.Bn [])),(94,(Ai false)),(102,(Aa (IntKind.wrap .i64 (a+(1)))))],((100274,some ⟨[Aa k,Aa l],46⟩)::(100273,some ⟨[Aa f,Aa g],46⟩)::(100274,some ⟨[Aa (0),Aa (0)],46⟩)::(100273,some ⟨[Aa (0),Aa (0)],46⟩)::(0,some ⟨[Aa b,Aa c],46⟩)::m),100295⟩)) else (
N0 ⟨[(1,(AV.ptr 0 0)),(2,(Aa t)),(3,(Aa u)),(4,(Aa d)),(50,(Aa (IntKind.wrap .i64 (a+(1))))),(51,(Ai (decide (a<(4096))))),(52,(Aa a)),(5,(Aa a)),(53,(Aa d)),(54,(Aa a)),(55,(Aa (IntKind.wrap .i64 (d+a)))),(56,(Aa e)),(6,(Aa j)),(57,(Aa a)),(58,(Aa (Int.tmod a (2)))),(59,(Ai ((Int.tmod a (2))==(1)))),(60,(Aa d)),(61,(Aa a)),(62,(Aa (IntKind.wrap .i64 (d-a)))),(63,(Aa j)),(64,(Aa j)),(65,(AV.agg [Aa f,Aa g])),(66,(Aa j)),(67,(Aa (IntKind.wrap .i64 (j+(1))))),(68,(AV.agg [Aa k,Aa l])),(7,(AV.ptr 100273 0)),(8,(AV.ptr 100274 0)),(69,(AV.agg [Aa f,Aa g])),(70,(AV.agg [Aa b,Aa c])),(71,(Aa p)),(72,(AV.agg [Aa b,Aa c])),(73,(AV.agg [Aa k,Aa l])),(74,(Aa q)),(9,(Aa p)),(10,(Aa q)),(75,(Aa p)),(76,(Ai (decide (p≥(0))))),(77,(Ai false)),(78,(AV.Bn [])),(79,(AV.Bn [])),(80,(Ai false)),(81,(Ai false)),(82,(AV.Bn [])),(83,(AV.Bn [])),(84,(AV.Bn [])),(85,(AV.Bn [])),(86,(AV.Bn [])),(87,(AV.Bn [])),(88,(AV.Bn [])),(89,(AV.Bn [])),(90,(AV.Bn [])),(91,(AV.Bn [])),(92,(AV.Bn [])),(93,(AV.Bn [])),(94,(Ai false)),(102,(Aa (IntKind.wrap .i64 (a+(1)))))],((100274,some ⟨[Aa k,Aa l],46⟩)::(100273,some ⟨[Aa f,Aa g],46⟩)::(100274,some ⟨[Aa (0),Aa (0)],46⟩)::(100273,some ⟨[Aa (0),Aa (0)],46⟩)::(0,some ⟨[Aa b,Aa c],46⟩)::m),100293⟩)) else (
A2 pg KK.gl ((0,some ⟨[Aa b,Aa c],46⟩)::m) 244 [Aa e] fun ai=>
I3 ai fun aj ak=>
Ag aj fun h=>
Ag ak fun i=>
A2 pg KK.gl ((0,some ⟨[Aa b,Aa c],46⟩)::m) 244 [Aa (IntKind.wrap .i64 (e+(1)))] fun al=>
I3 al fun c40 c41=>
Ag c40 fun n=>
Ag c41 fun o=>
A2 pg KK.gl ((100206,some ⟨[Aa n,Aa o],46⟩)::(100205,some ⟨[Aa h,Aa i],46⟩)::(100206,some ⟨[Aa (0),Aa (0)],46⟩)::(100205,some ⟨[Aa (0),Aa (0)],46⟩)::(0,some ⟨[Aa b,Aa c],46⟩)::m) 245 [AV.agg [Aa h,Aa i],AV.agg [Aa b,Aa c]] fun am=>
Ag am fun r=>
A2 pg KK.gl ((100206,some ⟨[Aa n,Aa o],46⟩)::(100205,some ⟨[Aa h,Aa i],46⟩)::(100206,some ⟨[Aa (0),Aa (0)],46⟩)::(100205,some ⟨[Aa (0),Aa (0)],46⟩)::(0,some ⟨[Aa b,Aa c],46⟩)::m) 245 [AV.agg [Aa b,Aa c],AV.agg [Aa n,Aa o]] fun an=>
Ag an fun s=>
bif (decide (r≥(0))) then (
bif (decide (s>(0))) then (
bif (decide ((IntKind.wrap .i64 ((IntKind.wrap .i64 (h*b))+(IntKind.wrap .i64 (i*c))))>(0))) then (
bif (decide (r≤s)) then (
As R ((100206,some ⟨[Aa n,Aa o],46⟩)::(100205,some ⟨[Aa h,Aa i],46⟩)::(100206,some ⟨[Aa (0),Aa (0)],46⟩)::(100205,some ⟨[Aa (0),Aa (0)],46⟩)::(0,some ⟨[Aa b,Aa c],46⟩)::m) [some (Aa e),some (Aa (0))]) else (
A2 pg KK.gl ((100206,some ⟨[Aa n,Aa o],46⟩)::(100205,some ⟨[Aa h,Aa i],46⟩)::(100206,some ⟨[Aa (0),Aa (0)],46⟩)::(100205,some ⟨[Aa (0),Aa (0)],46⟩)::(0,some ⟨[Aa b,Aa c],46⟩)::m) 120 [Aa (IntKind.wrap .i64 (e+(1)))] fun ao=>
Ag ao fun ap=>
As R ((100206,some ⟨[Aa n,Aa o],46⟩)::(100205,some ⟨[Aa h,Aa i],46⟩)::(100206,some ⟨[Aa (0),Aa (0)],46⟩)::(100205,some ⟨[Aa (0),Aa (0)],46⟩)::(0,some ⟨[Aa b,Aa c],46⟩)::m) [some (Aa ap),some (Aa (0))])) else (
N0 ⟨[(1,(AV.ptr 0 0)),(2,(Aa t)),(3,(Aa u)),(4,(Aa d)),(50,(Aa (IntKind.wrap .i64 (a+(1))))),(51,(Ai (decide (a<(4096))))),(52,(Aa a)),(5,(Aa a)),(53,(Aa d)),(54,(Aa a)),(55,(Aa (IntKind.wrap .i64 (d+a)))),(56,(Aa e)),(6,(Aa e)),(57,(Aa a)),(58,(Aa (Int.tmod a (2)))),(59,(Ai ((Int.tmod a (2))==(1)))),(64,(Aa e)),(65,(AV.agg [Aa h,Aa i])),(66,(Aa e)),(67,(Aa (IntKind.wrap .i64 (e+(1))))),(68,(AV.agg [Aa n,Aa o])),(7,(AV.ptr 100205 0)),(8,(AV.ptr 100206 0)),(69,(AV.agg [Aa h,Aa i])),(70,(AV.agg [Aa b,Aa c])),(71,(Aa r)),(72,(AV.agg [Aa b,Aa c])),(73,(AV.agg [Aa n,Aa o])),(74,(Aa s)),(9,(Aa r)),(10,(Aa s)),(75,(Aa r)),(76,(Ai (decide (r≥(0))))),(77,(Ai true)),(78,(Aa s)),(79,(Ai (decide (s>(0))))),(80,(Ai (decide (s>(0))))),(81,(Ai true)),(82,(AV.ptr 100205 0)),(83,(Aa h)),(84,(AV.ptr 0 0)),(85,(Aa b)),(86,(Aa (IntKind.wrap .i64 (h*b)))),(87,(AV.ptr 100205 1)),(88,(Aa i)),(89,(AV.ptr 0 1)),(90,(Aa c)),(91,(Aa (IntKind.wrap .i64 (i*c)))),(92,(Aa (IntKind.wrap .i64 ((IntKind.wrap .i64 (h*b))+(IntKind.wrap .i64 (i*c)))))),(93,(Ai (decide ((IntKind.wrap .i64 ((IntKind.wrap .i64 (h*b))+(IntKind.wrap .i64 (i*c))))>(0))))),(94,(Ai (decide ((IntKind.wrap .i64 ((IntKind.wrap .i64 (h*b))+(IntKind.wrap .i64 (i*c))))>(0))))),(102,(Aa (IntKind.wrap .i64 (a+(1)))))],((100206,some ⟨[Aa n,Aa o],46⟩)::(100205,some ⟨[Aa h,Aa i],46⟩)::(100206,some ⟨[Aa (0),Aa (0)],46⟩)::(100205,some ⟨[Aa (0),Aa (0)],46⟩)::(0,some ⟨[Aa b,Aa c],46⟩)::m),100239⟩)) else (
N0 ⟨[(1,(AV.ptr 0 0)),(2,(Aa t)),(3,(Aa u)),(4,(Aa d)),(50,(Aa (IntKind.wrap .i64 (a+(1))))),(51,(Ai (decide (a<(4096))))),(52,(Aa a)),(5,(Aa a)),(53,(Aa d)),(54,(Aa a)),(55,(Aa (IntKind.wrap .i64 (d+a)))),(56,(Aa e)),(6,(Aa e)),(57,(Aa a)),(58,(Aa (Int.tmod a (2)))),(59,(Ai ((Int.tmod a (2))==(1)))),(64,(Aa e)),(65,(AV.agg [Aa h,Aa i])),(66,(Aa e)),(67,(Aa (IntKind.wrap .i64 (e+(1))))),(68,(AV.agg [Aa n,Aa o])),(7,(AV.ptr 100205 0)),(8,(AV.ptr 100206 0)),(69,(AV.agg [Aa h,Aa i])),(70,(AV.agg [Aa b,Aa c])),(71,(Aa r)),(72,(AV.agg [Aa b,Aa c])),(73,(AV.agg [Aa n,Aa o])),(74,(Aa s)),(9,(Aa r)),(10,(Aa s)),(75,(Aa r)),(76,(Ai (decide (r≥(0))))),(77,(Ai true)),(78,(Aa s)),(79,(Ai (decide (s>(0))))),(80,(Ai (decide (s>(0))))),(81,(Ai false)),(82,(AV.Bn [])),(83,(AV.Bn [])),(84,(AV.Bn [])),(85,(AV.Bn [])),(86,(AV.Bn [])),(87,(AV.Bn [])),(88,(AV.Bn [])),(89,(AV.Bn [])),(90,(AV.Bn [])),(91,(AV.Bn [])),(92,(AV.Bn [])),(93,(AV.Bn [])),(94,(Ai false)),(102,(Aa (IntKind.wrap .i64 (a+(1)))))],((100206,some ⟨[Aa n,Aa o],46⟩)::(100205,some ⟨[Aa h,Aa i],46⟩)::(100206,some ⟨[Aa (0),Aa (0)],46⟩)::(100205,some ⟨[Aa (0),Aa (0)],46⟩)::(0,some ⟨[Aa b,Aa c],46⟩)::m),100227⟩)) else (
N0 ⟨[(1,(AV.ptr 0 0)),(2,(Aa t)),(3,(Aa u)),(4,(Aa d)),(50,(Aa (IntKind.wrap .i64 (a+(1))))),(51,(Ai (decide (a<(4096))))),(52,(Aa a)),(5,(Aa a)),(53,(Aa d)),(54,(Aa a)),(55,(Aa (IntKind.wrap .i64 (d+a)))),(56,(Aa e)),(6,(Aa e)),(57,(Aa a)),(58,(Aa (Int.tmod a (2)))),(59,(Ai ((Int.tmod a (2))==(1)))),(64,(Aa e)),(65,(AV.agg [Aa h,Aa i])),(66,(Aa e)),(67,(Aa (IntKind.wrap .i64 (e+(1))))),(68,(AV.agg [Aa n,Aa o])),(7,(AV.ptr 100205 0)),(8,(AV.ptr 100206 0)),(69,(AV.agg [Aa h,Aa i])),(70,(AV.agg [Aa b,Aa c])),(71,(Aa r)),(72,(AV.agg [Aa b,Aa c])),(73,(AV.agg [Aa n,Aa o])),(74,(Aa s)),(9,(Aa r)),(10,(Aa s)),(75,(Aa r)),(76,(Ai (decide (r≥(0))))),(77,(Ai false)),(78,(AV.Bn [])),(79,(AV.Bn [])),(80,(Ai false)),(81,(Ai false)),(82,(AV.Bn [])),(83,(AV.Bn [])),(84,(AV.Bn [])),(85,(AV.Bn [])),(86,(AV.Bn [])),(87,(AV.Bn [])),(88,(AV.Bn [])),(89,(AV.Bn [])),(90,(AV.Bn [])),(91,(AV.Bn [])),(92,(AV.Bn [])),(93,(AV.Bn [])),(94,(Ai false)),(102,(Aa (IntKind.wrap .i64 (a+(1)))))],((100206,some ⟨[Aa n,Aa o],46⟩)::(100205,some ⟨[Aa h,Aa i],46⟩)::(100206,some ⟨[Aa (0),Aa (0)],46⟩)::(100205,some ⟨[Aa (0),Aa (0)],46⟩)::(0,some ⟨[Aa b,Aa c],46⟩)::m),100225⟩))) else (
As R ((0,some ⟨[Aa b,Aa c],46⟩)::m) [some (Aa (0)),some (Aa (0))])
noncomputable def Aok (b a:Int) (R:AV→Mem→Prop):Prop:=
bif (decide (b<(-2000000))) then (
As R ((0,some ⟨[Aa b,Aa a],46⟩)::[]) [some (Aa (0)),some (Aa (4))]) else (
bif (decide (b>(2000000))) then (
As R ((0,some ⟨[Aa b,Aa a],46⟩)::[]) [some (Aa (0)),some (Aa (4))]) else (
bif (decide (a<(-2000000))) then (
As R ((0,some ⟨[Aa b,Aa a],46⟩)::[]) [some (Aa (0)),some (Aa (4))]) else (
bif (decide (a>(2000000))) then (
As R ((0,some ⟨[Aa b,Aa a],46⟩)::[]) [some (Aa (0)),some (Aa (4))]) else (
bif (b==(0)) then (
bif (a==(0)) then (
As R ((0,some ⟨[Aa b,Aa a],46⟩)::[]) [some (Aa (0)),some (Aa (10))]) else (
A4 (Ce pg (.convert 3 345 (.tmp 0)) 345 [Aa b] (Al ((0,some ⟨[Aa b,Aa a],46⟩)::[])) 33) fun q=>
Hc q fun c=>
A4 (Ce pg (.convert 3 345 (.tmp 0)) 345 [Aa a] (Al ((0,some ⟨[Aa b,Aa a],46⟩)::[])) 36) fun r=>
Hc r fun d=>
A2 pg KK.gl ((0,some ⟨[Aa b,Aa a],46⟩)::[]) 243 [AV.sc (.float .f64 c),AV.sc (.float .f64 d)] fun s=>
Hc s fun e=>
A4 (Ce pg (.binOp .mul 345 (.tmp 0) (.tmp 1) 345) 345 [AV.sc (.float .f64 e),AV.sc (.float .f64 4656722014701092864)] (Al ((0,some ⟨[Aa b,Aa a],46⟩)::[])) 101) fun t=>
Hc t fun f=>
A4 (Ce pg (.binOp .quo 345 (.tmp 0) (.tmp 1) 345) 345 [AV.sc (.float .f64 f),AV.sc (.float .f64 4614256656552045848)] (Al ((0,some ⟨[Aa b,Aa a],46⟩)::[])) 102) fun u=>
Hc u fun g=>
A2 pg KK.gl ((0,some ⟨[Aa b,Aa a],46⟩)::[]) 242 [AV.sc (.float .f64 g)] fun v=>
Hc v fun h=>
A4 (Ce pg (.convert 345 3 (.tmp 0)) 3 [AV.sc (.float .f64 h)] (Al ((0,some ⟨[Aa b,Aa a],46⟩)::[])) 167) fun w=>
Ag w fun i=>
Ff pg KK 103 0 (.loop tU) ⟨[(0,(AV.agg [Aa b,Aa a])),(1,(AV.ptr 0 0)),(2,(Aa (0))),(3,(Aa (0))),(12,(AV.ptr 0 0)),(13,(Aa b)),(14,(Ai (decide (b<(-2000000))))),(15,(Ai false)),(16,(AV.ptr 0 0)),(17,(Aa b)),(18,(Ai (decide (b>(2000000))))),(19,(Ai (decide (b>(2000000))))),(20,(Ai false)),(21,(AV.ptr 0 1)),(22,(Aa a)),(23,(Ai (decide (a<(-2000000))))),(24,(Ai (decide (a<(-2000000))))),(25,(Ai false)),(26,(AV.ptr 0 1)),(27,(Aa a)),(28,(Ai (decide (a>(2000000))))),(29,(Ai (decide (a>(2000000))))),(11,(Ai (decide (a>(2000000))))),(31,(AV.ptr 0 0)),(32,(Aa b)),(33,(Ai (b==(0)))),(34,(Ai true)),(35,(AV.ptr 0 1)),(36,(Aa a)),(37,(Ai (a==(0)))),(38,(Ai (a==(0)))),(30,(Ai (a==(0)))),(39,(AV.ptr 0 0)),(40,(Aa b)),(41,(AV.sc (.float .f64 c))),(42,(AV.ptr 0 1)),(43,(Aa a)),(44,(AV.sc (.float .f64 d))),(45,(AV.sc (.float .f64 e))),(46,(AV.sc (.float .f64 f))),(47,(AV.sc (.float .f64 g))),(48,(AV.sc (.float .f64 h))),(49,(Aa i)),(4,(Aa i)),(50,(Aa (0)))],((0,some ⟨[Aa b,Aa a],46⟩)::[]),170⟩ (jI R))) else (
A4 (Ce pg (.convert 3 345 (.tmp 0)) 345 [Aa b] (Al ((0,some ⟨[Aa b,Aa a],46⟩)::[])) 30) fun x=>
Hc x fun j=>
A4 (Ce pg (.convert 3 345 (.tmp 0)) 345 [Aa a] (Al ((0,some ⟨[Aa b,Aa a],46⟩)::[])) 33) fun y=>
Hc y fun k=>
A2 pg KK.gl ((0,some ⟨[Aa b,Aa a],46⟩)::[]) 243 [AV.sc (.float .f64 j),AV.sc (.float .f64 k)] fun z=>
Hc z fun l=>
A4 (Ce pg (.binOp .mul 345 (.tmp 0) (.tmp 1) 345) 345 [AV.sc (.float .f64 l),AV.sc (.float .f64 4656722014701092864)] (Al ((0,some ⟨[Aa b,Aa a],46⟩)::[])) 98) fun aa=>
Hc aa fun m=>
A4 (Ce pg (.binOp .quo 345 (.tmp 0) (.tmp 1) 345) 345 [AV.sc (.float .f64 m),AV.sc (.float .f64 4614256656552045848)] (Al ((0,some ⟨[Aa b,Aa a],46⟩)::[])) 99) fun ab=>
Hc ab fun n=>
A2 pg KK.gl ((0,some ⟨[Aa b,Aa a],46⟩)::[]) 242 [AV.sc (.float .f64 n)] fun ad=>
Hc ad fun o=>
A4 (Ce pg (.convert 345 3 (.tmp 0)) 3 [AV.sc (.float .f64 o)] (Al ((0,some ⟨[Aa b,Aa a],46⟩)::[])) 164) fun ae=>
Ag ae fun p=>
Ff pg KK 103 0 (.loop tU) ⟨[(0,(AV.agg [Aa b,Aa a])),(1,(AV.ptr 0 0)),(2,(Aa (0))),(3,(Aa (0))),(12,(AV.ptr 0 0)),(13,(Aa b)),(14,(Ai (decide (b<(-2000000))))),(15,(Ai false)),(16,(AV.ptr 0 0)),(17,(Aa b)),(18,(Ai (decide (b>(2000000))))),(19,(Ai (decide (b>(2000000))))),(20,(Ai false)),(21,(AV.ptr 0 1)),(22,(Aa a)),(23,(Ai (decide (a<(-2000000))))),(24,(Ai (decide (a<(-2000000))))),(25,(Ai false)),(26,(AV.ptr 0 1)),(27,(Aa a)),(28,(Ai (decide (a>(2000000))))),(29,(Ai (decide (a>(2000000))))),(11,(Ai (decide (a>(2000000))))),(31,(AV.ptr 0 0)),(32,(Aa b)),(33,(Ai (b==(0)))),(34,(Ai false)),(35,(AV.Bn [])),(36,(AV.Bn [])),(37,(AV.Bn [])),(38,(Ai false)),(30,(Ai false)),(39,(AV.ptr 0 0)),(40,(Aa b)),(41,(AV.sc (.float .f64 j))),(42,(AV.ptr 0 1)),(43,(Aa a)),(44,(AV.sc (.float .f64 k))),(45,(AV.sc (.float .f64 l))),(46,(AV.sc (.float .f64 m))),(47,(AV.sc (.float .f64 n))),(48,(AV.sc (.float .f64 o))),(49,(Aa p)),(4,(Aa p)),(50,(Aa (0)))],((0,some ⟨[Aa b,Aa a],46⟩)::[]),167⟩ (jI R))))))
noncomputable def Avt:Code:=((Tryz.f195).body).getD .skip
noncomputable def Av0 (R:AV→Mem→Prop):A1→St→Prop:=Cm pg Tryz.f195 R
noncomputable def Amn (b a:Int) (R:AV→Mem→Prop):Prop:=
bif (decide (a<(0))) then (
A4 (Mb [Aa (0),Aa (0)] [(0,1),(1,1)] []) fun c=>
B4 pg (Al ((0,some ⟨[Aa (0),Aa (0)],46⟩)::[])) 46 (AV.ptr 0 0) c fun n d1=>
As R (Ad ((0,some ⟨[Aa (0),Aa (0)],46⟩)::[]) d1) [(D7 pg (Al (Ad ((0,some ⟨[Aa (0),Aa (0)],46⟩)::[]) d1)) 46 (AV.ptr 0 0)).map (·.1),some (Aa (4))]) else (
bif (decide (a>(2000000))) then (
A4 (Mb [Aa (0),Aa (0)] [(0,1),(1,1)] []) fun d=>
B4 pg (Al ((0,some ⟨[Aa (0),Aa (0)],46⟩)::[])) 46 (AV.ptr 0 0) d fun o d3=>
As R (Ad ((0,some ⟨[Aa (0),Aa (0)],46⟩)::[]) d3) [(D7 pg (Al (Ad ((0,some ⟨[Aa (0),Aa (0)],46⟩)::[]) d3)) 46 (AV.ptr 0 0)).map (·.1),some (Aa (4))]) else (
A2 pg KK.gl ((0,some ⟨[Aa (0),Aa (0)],46⟩)::[]) 261 [Aa b] fun e=>
Ag e fun f=>
A2 pg KK.gl ((0,some ⟨[Aa (0),Aa (0)],46⟩)::[]) 260 [Aa (IntKind.wrap .i64 (a*f)),Aa (16384)] fun g=>
Ag g fun h=>
A2 pg KK.gl ((0,some ⟨[Aa (0),Aa (0)],46⟩)::[]) 262 [Aa b] fun i=>
Ag i fun j=>
A2 pg KK.gl ((0,some ⟨[Aa (0),Aa (0)],46⟩)::[]) 260 [Aa (IntKind.wrap .i64 (a*j)),Aa (16384)] fun k=>
Ag k fun l=>
A4 (Mb [Aa (0),Aa (0)] [(0,1),(1,1)] [(0,(Aa h)),(1,(Aa l))]) fun m=>
B4 pg (Al ((0,some ⟨[Aa (0),Aa (0)],46⟩)::[])) 46 (AV.ptr 0 0) m fun p d13=>
As R (Ad ((0,some ⟨[Aa (0),Aa (0)],46⟩)::[]) d13) [(D7 pg (Al (Ad ((0,some ⟨[Aa (0),Aa (0)],46⟩)::[]) d13)) 46 (AV.ptr 0 0)).map (·.1),some (Aa (0))]))
noncomputable def c41:Code:=((Tryz.f41).body).getD .skip
noncomputable def q41 (R:AV→Mem→Prop):A1→St→Prop:=Cm pg Tryz.f41 R
noncomputable def F41 (a b:AV) (R:AV→Mem→Prop):Prop:=
A2 pg KK.gl [] 42 [a] fun c=>
Ag c fun d=>
bif (d !=(0)) then (
As R [] [some (Ai true)]) else (
A4 (Da a) fun e=>
Ag e fun f=>
A4 (De 6 a (Aa (IntKind.wrap .i64 (f-(1))))) fun g=>
A4 (Eo 0 g) fun h=>
A4 (Eo 0 h) fun i=>
A4 (Ek (Al []) i) fun j=>
Ag j fun k=>
A4 (De 6 a (Aa (0))) fun l=>
A4 (Eo 0 l) fun m=>
A4 (Eo 0 m) fun n=>
A4 (Ek (Al []) n) fun o=>
Ag o fun p=>
A4 (Ek (Al []) b) fun q=>
Ag q fun r=>
As R [] [some (Ai (decide ((IntKind.wrap .i64 (k-p))>r)))])
noncomputable def c117:Code:=((Tryz.f117).body).getD .skip
noncomputable def As9 (R:AV→Mem→Prop):A1→St→Prop:=Cm pg Tryz.f117 R
noncomputable def Ajr:Code:=Dy c117 0
noncomputable def Aaw (R:AV→Mem→Prop):A1→St→Prop:=Dz pg KK 19 0 c117 0 (As9 R)
noncomputable def Aqj (R:AV→Mem→Prop) (N0:St→Prop):A1→St→Prop:=Dw N0 (Aaw R)
def Ag4 (a b:AV) (c d e:Int) (m:Mem):St:=⟨[(0,a),(1,b),(4,(Aa c)),(7,(Aa d)),(8,(Aa e))],m,100000⟩
noncomputable def sA (b c:AV) (i d a:Int) (m:Mem) (R:AV→Mem→Prop) (N0:St→Prop):Prop:=
bif (decide (a<d)) then (
A4 (De 1 b (Aa a)) fun f=>
A4 (Ek (Al m) f) fun g=>
H7 (some c) (some [g]) fun f4 j=>bif KK.pm f4 then A2 pg KK.gl m f4 j (fun h=>
Ha h fun e=>
bif e then (
As R m [some (Aa a)]) else (
N0 ⟨[(0,b),(1,c),(4,(Aa i)),(7,(Aa d)),(8,(Aa (IntKind.wrap .i64 (a+(1))))),(9,(Ai (decide (a<d)))),(10,(Aa a)),(5,(Aa a)),(11,c),(12,b),(13,(Aa a)),(14,f),(15,g),(16,(Ai e)),(18,(Aa (IntKind.wrap .i64 (a+(1)))))],m,100074⟩)) else C1 pg KK.gl m 100008 f4 j fun h k=>
Ha h fun e=>
bif e then (
As R k [some (Aa a)]) else (
N0 ⟨[(0,b),(1,c),(4,(Aa i)),(7,(Aa d)),(8,(Aa (IntKind.wrap .i64 (a+(1))))),(9,(Ai (decide (a<d)))),(10,(Aa a)),(5,(Aa a)),(11,c),(12,b),(13,(Aa a)),(14,f),(15,g),(16,(Ai e)),(18,(Aa (IntKind.wrap .i64 (a+(1)))))],k,100074⟩)) else (
As R m [some (Aa (-1))])
noncomputable def Ali (a b:AV) (R:AV→Mem→Prop):Prop:=
A4 (Da a) fun c=>
Ag c fun d=>
Ff pg KK 19 0 (.loop Ajr) ⟨[(0,a),(1,b),(4,(Aa (0))),(6,a),(7,(Aa d)),(8,(Aa (0)))],[],4⟩ (Aaw R)
noncomputable def c40:Code:=((Tryz.f40).body).getD .skip
noncomputable def q40 (R:AV→Mem→Prop):A1→St→Prop:=Cm pg Tryz.f40 R
noncomputable def F40 (a b:AV) (R:AV→Mem→Prop):Prop:=
A2 pg KK.gl [] 117 [a,b] fun c=>
Ag c fun d=>
As R [] [some (Ai (decide (d≥(0))))]
noncomputable def c5:Code:=((Tryz.f5).body).getD .skip
noncomputable def q5 (R:AV→Mem→Prop):A1→St→Prop:=Cm pg Tryz.f5 R
noncomputable def F5 (b:AV) (c a:Int) (R:AV→Mem→Prop):Prop:=
A4 (Da b) fun d=>
Ag d fun e=>
bif (decide (e≤c)) then (
A2 pg KK.gl ((0,some ⟨[Aa a],3⟩)::[]) 40 [b,AV.fn 41 [AV.ptr 0 0]] fun f=>
Ha f fun g=>
As R ((0,some ⟨[Aa a],3⟩)::[]) [some (Ai (!g))]) else (
As R ((0,some ⟨[Aa a],3⟩)::[]) [some (Ai false)])
end Go.Proofs.YtkdodbfnocdkdaaGreatDoor
