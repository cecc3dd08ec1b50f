/- A part. -/
import Derived.Test.YtmhnnmfcjdnlhaaGreatDoorX1T
set_option linter.unusedVariables false
set_option maxRecDepth 100000
set_option maxHeartbeats 4000000
namespace Go.Proofs.YtmhnnmfcjdnlhaaGreatDoor
noncomputable def mH:Code:=((Tryz.f101).body).getD .skip
noncomputable def Aie (R:AV→Mem→Prop):Bh→St→Prop:=C8 pg Tryz.f101 R
noncomputable def vM (m:Nat) (R:AV→Mem→Prop):Prop:=
Xz pg .eql 104 4 m 0 2 fun b1=>
bif b1 then (
A2 R [] [some (AV.sc (.float .f64 m))]) else (
Bd pg KK.gl [] 84 [AV.sc (.float .f64 m)] fun v2=>
Hr v2 fun b3=>
bif b3 then (
A2 R [] [some (AV.sc (.float .f64 m))]) else (
Bd pg KK.gl [] 85 [AV.sc (.float .f64 m),Aa (0)] fun v4=>
Hr v4 fun b5=>
bif b5 then (
Bd pg KK.gl [] 87 [] fun v6=>
Gv v6 fun r7=>
A2 R [] [some (AV.sc (.float .f64 r7))]) else (
Xz pg .lss 104 4 m 0 139 fun b9=>
bif b9 then (
Sq pg 104 m 141 fun t=>
Xz pg .geq 104 4 t 4737786807993761792 148 fun ah=>
bif ah then (
Bd pg KK.gl [] 106 [AV.sc (.float .f64 t)] fun ai=>
Fs ai fun aj ak=>
D7 aj fun u=>
Gv ak fun n=>
bif (decide (u>(3))) then (
A8 pg .mul 104 n n 229 fun a=>
bif ((IntKind.wrap .u64 (u-(4)))==(1)) then (
A8 pg .mul 104 4602678819172646912 a 236 fun al=>
A8 pg .sub 104 4607182418800017408 al 237 fun am=>
A8 pg .mul 104 a a 240 fun an=>
Cu 6 1 (Bp 3) (0) fun ao=>
A8 pg .mul 104 ao a 244 fun ap=>
Cu 6 1 (Bp 3) (1) fun aq=>
A8 pg .add 104 ap aq 247 fun ar=>
A8 pg .mul 104 ar a 249 fun au=>
Cu 6 1 (Bp 3) (2) fun av=>
A8 pg .add 104 au av 252 fun aw=>
A8 pg .mul 104 aw a 254 fun ax=>
Cu 6 1 (Bp 3) (3) fun ay=>
A8 pg .add 104 ax ay 257 fun az=>
A8 pg .mul 104 az a 259 fun ba=>
Cu 6 1 (Bp 3) (4) fun bb=>
A8 pg .add 104 ba bb 262 fun bc=>
A8 pg .mul 104 bc a 264 fun bd=>
Cu 6 1 (Bp 3) (5) fun be=>
A8 pg .add 104 bd be 267 fun bf=>
A8 pg .mul 104 an bf 268 fun bg=>
A8 pg .add 104 am bg 269 fun bh=>
A2 R [] [some (AV.sc (.float .f64 bh))]) else (
bif ((IntKind.wrap .u64 (u-(4)))==(2)) then (
A8 pg .mul 104 4602678819172646912 a 238 fun bi=>
A8 pg .sub 104 4607182418800017408 bi 239 fun bj=>
A8 pg .mul 104 a a 242 fun bk=>
Cu 6 1 (Bp 3) (0) fun bl=>
A8 pg .mul 104 bl a 246 fun bm=>
Cu 6 1 (Bp 3) (1) fun bn=>
A8 pg .add 104 bm bn 249 fun bo=>
A8 pg .mul 104 bo a 251 fun bp=>
Cu 6 1 (Bp 3) (2) fun bq=>
A8 pg .add 104 bp bq 254 fun br=>
A8 pg .mul 104 br a 256 fun bs=>
Cu 6 1 (Bp 3) (3) fun bt=>
A8 pg .add 104 bs bt 259 fun bu=>
A8 pg .mul 104 bu a 261 fun bv=>
Cu 6 1 (Bp 3) (4) fun bw=>
A8 pg .add 104 bv bw 264 fun bz=>
A8 pg .mul 104 bz a 266 fun ca=>
Cu 6 1 (Bp 3) (5) fun cb=>
A8 pg .add 104 ca cb 269 fun cc=>
A8 pg .mul 104 bk cc 270 fun cd=>
A8 pg .add 104 bj cd 271 fun ce=>
A2 R [] [some (AV.sc (.float .f64 ce))]) else (
A8 pg .mul 104 n a 240 fun cg=>
Cu 6 1 (Bp 4) (0) fun ch=>
A8 pg .mul 104 ch a 244 fun ci=>
Cu 6 1 (Bp 4) (1) fun cj=>
A8 pg .add 104 ci cj 247 fun ck=>
A8 pg .mul 104 ck a 249 fun cl=>
Cu 6 1 (Bp 4) (2) fun cm=>
A8 pg .add 104 cl cm 252 fun cn=>
A8 pg .mul 104 cn a 254 fun co=>
Cu 6 1 (Bp 4) (3) fun cp=>
A8 pg .add 104 co cp 257 fun cq=>
A8 pg .mul 104 cq a 259 fun cr=>
Cu 6 1 (Bp 4) (4) fun cs=>
A8 pg .add 104 cr cs 262 fun ct=>
A8 pg .mul 104 ct a 264 fun cu=>
Cu 6 1 (Bp 4) (5) fun cv=>
A8 pg .add 104 cu cv 267 fun cw=>
A8 pg .mul 104 cg cw 268 fun cx=>
A8 pg .add 104 n cx 269 fun cy=>
A2 R [] [some (AV.sc (.float .f64 cy))]))) else (
A8 pg .mul 104 n n 223 fun b=>
bif (u==(1)) then (
A8 pg .mul 104 4602678819172646912 b 230 fun cz=>
A8 pg .sub 104 4607182418800017408 cz 231 fun da=>
A8 pg .mul 104 b b 234 fun db=>
Cu 6 1 (Bp 3) (0) fun dc=>
A8 pg .mul 104 dc b 238 fun dd=>
Cu 6 1 (Bp 3) (1) fun de=>
A8 pg .add 104 dd de 241 fun df=>
A8 pg .mul 104 df b 243 fun dg=>
Cu 6 1 (Bp 3) (2) fun dh=>
A8 pg .add 104 dg dh 246 fun di=>
A8 pg .mul 104 di b 248 fun dj=>
Cu 6 1 (Bp 3) (3) fun dk=>
A8 pg .add 104 dj dk 251 fun dl=>
A8 pg .mul 104 dl b 253 fun dm=>
Cu 6 1 (Bp 3) (4) fun dn=>
A8 pg .add 104 dm dn 256 fun dp=>
A8 pg .mul 104 dp b 258 fun dq=>
Cu 6 1 (Bp 3) (5) fun ds=>
A8 pg .add 104 dq ds 261 fun dt=>
A8 pg .mul 104 db dt 262 fun du=>
A8 pg .add 104 da du 263 fun dv=>
Sq pg 104 dv 267 fun dw=>
A2 R [] [some (AV.sc (.float .f64 dw))]) else (
bif (u==(2)) then (
A8 pg .mul 104 4602678819172646912 b 232 fun dx=>
A8 pg .sub 104 4607182418800017408 dx 233 fun dy=>
A8 pg .mul 104 b b 236 fun dz=>
Cu 6 1 (Bp 3) (0) fun ea=>
A8 pg .mul 104 ea b 240 fun eb=>
Cu 6 1 (Bp 3) (1) fun ec=>
A8 pg .add 104 eb ec 243 fun ed=>
A8 pg .mul 104 ed b 245 fun ee=>
Cu 6 1 (Bp 3) (2) fun ef=>
A8 pg .add 104 ee ef 248 fun eg=>
A8 pg .mul 104 eg b 250 fun eh=>
Cu 6 1 (Bp 3) (3) fun ei=>
A8 pg .add 104 eh ei 253 fun ej=>
A8 pg .mul 104 ej b 255 fun ek=>
Cu 6 1 (Bp 3) (4) fun el=>
A8 pg .add 104 ek el 258 fun em=>
A8 pg .mul 104 em b 260 fun en=>
Cu 6 1 (Bp 3) (5) fun eo=>
A8 pg .add 104 en eo 263 fun ep=>
A8 pg .mul 104 dz ep 264 fun eq=>
A8 pg .add 104 dy eq 265 fun er=>
Sq pg 104 er 269 fun es=>
A2 R [] [some (AV.sc (.float .f64 es))]) else (
A8 pg .mul 104 n b 234 fun et=>
Cu 6 1 (Bp 4) (0) fun eu=>
A8 pg .mul 104 eu b 238 fun ev=>
Cu 6 1 (Bp 4) (1) fun ew=>
A8 pg .add 104 ev ew 241 fun ex=>
A8 pg .mul 104 ex b 243 fun ey=>
Cu 6 1 (Bp 4) (2) fun ez=>
A8 pg .add 104 ey ez 246 fun fa=>
A8 pg .mul 104 fa b 248 fun fb=>
Cu 6 1 (Bp 4) (3) fun fc=>
A8 pg .add 104 fb fc 251 fun fd=>
A8 pg .mul 104 fd b 253 fun fe=>
Cu 6 1 (Bp 4) (4) fun ff=>
A8 pg .add 104 fe ff 256 fun fg=>
A8 pg .mul 104 fg b 258 fun fh=>
Cu 6 1 (Bp 4) (5) fun fi=>
A8 pg .add 104 fh fi 261 fun fj=>
A8 pg .mul 104 et fj 262 fun fk=>
A8 pg .add 104 n fk 263 fun fl=>
Sq pg 104 fl 267 fun fm=>
A2 R [] [some (AV.sc (.float .f64 fm))])))) else (
A8 pg .mul 104 t 4608412980311869571 150 fun fn=>
Bo (Cs pg (.convert 104 133 (.tmp 0)) 133 [AV.sc (.float .f64 fn)] (Am []) 151) fun fo=>
D7 fo fun aa=>
Bo (Cs pg (.convert 133 104 (.tmp 0)) 104 [AV.sc (.int .u64 aa)] (Am []) 154) fun fp=>
Gv fp fun ab=>
Bo (Cs pg (.binOp .and 133 (.tmp 0) (.tmp 1) 133) 133 [AV.sc (.int .u64 aa),AV.sc (.int .u64 (1))] (Am []) 157) fun fq=>
D7 fq fun fr=>
bif (fr==(1)) then (
A8 pg .add 104 ab 4607182418800017408 163 fun af=>
Bo (Cs pg (.binOp .and 133 (.tmp 0) (.tmp 1) 133) 133 [AV.sc (.int .u64 (IntKind.wrap .u64 (aa+(1)))),AV.sc (.int .u64 (7))] (Am []) 166) fun fs=>
D7 fs fun v=>
A8 pg .mul 104 af 4605249456957292544 170 fun ft=>
A8 pg .sub 104 t ft 171 fun fu=>
A8 pg .mul 104 af 4495793288086814720 173 fun fv=>
A8 pg .sub 104 fu fv 174 fun fw=>
A8 pg .mul 104 af 4388835458085048688 176 fun fx=>
A8 pg .sub 104 fw fx 177 fun o=>
bif (decide (v>(3))) then (
A8 pg .mul 104 o o 189 fun c=>
bif ((IntKind.wrap .u64 (v-(4)))==(1)) then (
A8 pg .mul 104 4602678819172646912 c 196 fun fy=>
A8 pg .sub 104 4607182418800017408 fy 197 fun fz=>
A8 pg .mul 104 c c 200 fun ga=>
Cu 6 1 (Bp 3) (0) fun gb=>
A8 pg .mul 104 gb c 204 fun gc=>
Cu 6 1 (Bp 3) (1) fun gd=>
A8 pg .add 104 gc gd 207 fun ge=>
A8 pg .mul 104 ge c 209 fun gf=>
Cu 6 1 (Bp 3) (2) fun gg=>
A8 pg .add 104 gf gg 212 fun gh=>
A8 pg .mul 104 gh c 214 fun gi=>
Cu 6 1 (Bp 3) (3) fun gj=>
A8 pg .add 104 gi gj 217 fun gk=>
A8 pg .mul 104 gk c 219 fun gm=>
Cu 6 1 (Bp 3) (4) fun gn=>
A8 pg .add 104 gm gn 222 fun go=>
A8 pg .mul 104 go c 224 fun gp=>
Cu 6 1 (Bp 3) (5) fun gq=>
A8 pg .add 104 gp gq 227 fun gr=>
A8 pg .mul 104 ga gr 228 fun gs=>
A8 pg .add 104 fz gs 229 fun gt=>
A2 R [] [some (AV.sc (.float .f64 gt))]) else (
bif ((IntKind.wrap .u64 (v-(4)))==(2)) then (
A8 pg .mul 104 4602678819172646912 c 198 fun gu=>
A8 pg .sub 104 4607182418800017408 gu 199 fun gv=>
A8 pg .mul 104 c c 202 fun gw=>
Cu 6 1 (Bp 3) (0) fun gx=>
A8 pg .mul 104 gx c 206 fun gy=>
Cu 6 1 (Bp 3) (1) fun gz=>
A8 pg .add 104 gy gz 209 fun ha=>
A8 pg .mul 104 ha c 211 fun hb=>
Cu 6 1 (Bp 3) (2) fun hc=>
A8 pg .add 104 hb hc 214 fun hd=>
A8 pg .mul 104 hd c 216 fun he=>
Cu 6 1 (Bp 3) (3) fun hf=>
A8 pg .add 104 he hf 219 fun hg=>
A8 pg .mul 104 hg c 221 fun hh=>
Cu 6 1 (Bp 3) (4) fun hi=>
A8 pg .add 104 hh hi 224 fun hj=>
A8 pg .mul 104 hj c 226 fun hk=>
Cu 6 1 (Bp 3) (5) fun hl=>
A8 pg .add 104 hk hl 229 fun hm=>
A8 pg .mul 104 gw hm 230 fun hn=>
A8 pg .add 104 gv hn 231 fun ho=>
A2 R [] [some (AV.sc (.float .f64 ho))]) else (
A8 pg .mul 104 o c 200 fun hp=>
Cu 6 1 (Bp 4) (0) fun hq=>
A8 pg .mul 104 hq c 204 fun hr=>
Cu 6 1 (Bp 4) (1) fun hs=>
A8 pg .add 104 hr hs 207 fun ht=>
A8 pg .mul 104 ht c 209 fun hu=>
Cu 6 1 (Bp 4) (2) fun hv=>
A8 pg .add 104 hu hv 212 fun hw=>
A8 pg .mul 104 hw c 214 fun hx=>
Cu 6 1 (Bp 4) (3) fun hy=>
A8 pg .add 104 hx hy 217 fun hz=>
A8 pg .mul 104 hz c 219 fun ia=>
Cu 6 1 (Bp 4) (4) fun ib=>
A8 pg .add 104 ia ib 222 fun ic=>
A8 pg .mul 104 ic c 224 fun id=>
Cu 6 1 (Bp 4) (5) fun ie=>
A8 pg .add 104 id ie 227 fun ig=>
A8 pg .mul 104 hp ig 228 fun ih=>
A8 pg .add 104 o ih 229 fun ii=>
A2 R [] [some (AV.sc (.float .f64 ii))]))) else (
A8 pg .mul 104 o o 183 fun d=>
bif (v==(1)) then (
A8 pg .mul 104 4602678819172646912 d 190 fun ij=>
A8 pg .sub 104 4607182418800017408 ij 191 fun ik=>
A8 pg .mul 104 d d 194 fun il=>
Cu 6 1 (Bp 3) (0) fun im=>
A8 pg .mul 104 im d 198 fun io=>
Cu 6 1 (Bp 3) (1) fun ip=>
A8 pg .add 104 io ip 201 fun ir=>
A8 pg .mul 104 ir d 203 fun it=>
Cu 6 1 (Bp 3) (2) fun iu=>
A8 pg .add 104 it iu 206 fun iv=>
A8 pg .mul 104 iv d 208 fun iw=>
Cu 6 1 (Bp 3) (3) fun ix=>
A8 pg .add 104 iw ix 211 fun iy=>
A8 pg .mul 104 iy d 213 fun iz=>
Cu 6 1 (Bp 3) (4) fun ja=>
A8 pg .add 104 iz ja 216 fun jb=>
A8 pg .mul 104 jb d 218 fun jc=>
Cu 6 1 (Bp 3) (5) fun jd=>
A8 pg .add 104 jc jd 221 fun je=>
A8 pg .mul 104 il je 222 fun jf=>
A8 pg .add 104 ik jf 223 fun jg=>
Sq pg 104 jg 227 fun jh=>
A2 R [] [some (AV.sc (.float .f64 jh))]) else (
bif (v==(2)) then (
A8 pg .mul 104 4602678819172646912 d 192 fun ji=>
A8 pg .sub 104 4607182418800017408 ji 193 fun jj=>
A8 pg .mul 104 d d 196 fun jk=>
Cu 6 1 (Bp 3) (0) fun jl=>
A8 pg .mul 104 jl d 200 fun jm=>
Cu 6 1 (Bp 3) (1) fun jn=>
A8 pg .add 104 jm jn 203 fun jo=>
A8 pg .mul 104 jo d 205 fun jp=>
Cu 6 1 (Bp 3) (2) fun jq=>
A8 pg .add 104 jp jq 208 fun jr=>
A8 pg .mul 104 jr d 210 fun js=>
Cu 6 1 (Bp 3) (3) fun jt=>
A8 pg .add 104 js jt 213 fun ju=>
A8 pg .mul 104 ju d 215 fun jv=>
Cu 6 1 (Bp 3) (4) fun jw=>
A8 pg .add 104 jv jw 218 fun jx=>
A8 pg .mul 104 jx d 220 fun jy=>
Cu 6 1 (Bp 3) (5) fun jz=>
A8 pg .add 104 jy jz 223 fun ka=>
A8 pg .mul 104 jk ka 224 fun kb=>
A8 pg .add 104 jj kb 225 fun kc=>
Sq pg 104 kc 229 fun kd=>
A2 R [] [some (AV.sc (.float .f64 kd))]) else (
A8 pg .mul 104 o d 194 fun ke=>
Cu 6 1 (Bp 4) (0) fun kf=>
A8 pg .mul 104 kf d 198 fun kg=>
Cu 6 1 (Bp 4) (1) fun ki=>
A8 pg .add 104 kg ki 201 fun kj=>
A8 pg .mul 104 kj d 203 fun kk=>
Cu 6 1 (Bp 4) (2) fun kl=>
A8 pg .add 104 kk kl 206 fun km=>
A8 pg .mul 104 km d 208 fun kn=>
Cu 6 1 (Bp 4) (3) fun ko=>
A8 pg .add 104 kn ko 211 fun kp=>
A8 pg .mul 104 kp d 213 fun kr=>
Cu 6 1 (Bp 4) (4) fun ks=>
A8 pg .add 104 kr ks 216 fun kt=>
A8 pg .mul 104 kt d 218 fun ku=>
Cu 6 1 (Bp 4) (5) fun kv=>
A8 pg .add 104 ku kv 221 fun kw=>
A8 pg .mul 104 ke kw 222 fun kx=>
A8 pg .add 104 o kx 223 fun ky=>
Sq pg 104 ky 227 fun kz=>
A2 R [] [some (AV.sc (.float .f64 kz))])))) else (
Bo (Cs pg (.binOp .and 133 (.tmp 0) (.tmp 1) 133) 133 [AV.sc (.int .u64 aa),AV.sc (.int .u64 (7))] (Am []) 160) fun la=>
D7 la fun w=>
A8 pg .mul 104 ab 4605249456957292544 164 fun lb=>
A8 pg .sub 104 t lb 165 fun lc=>
A8 pg .mul 104 ab 4495793288086814720 167 fun ld=>
A8 pg .sub 104 lc ld 168 fun lf=>
A8 pg .mul 104 ab 4388835458085048688 170 fun lg=>
A8 pg .sub 104 lf lg 171 fun p=>
bif (decide (w>(3))) then (
A8 pg .mul 104 p p 183 fun e=>
bif ((IntKind.wrap .u64 (w-(4)))==(1)) then (
A8 pg .mul 104 4602678819172646912 e 190 fun lh=>
A8 pg .sub 104 4607182418800017408 lh 191 fun li=>
A8 pg .mul 104 e e 194 fun lj=>
Cu 6 1 (Bp 3) (0) fun ll=>
A8 pg .mul 104 ll e 198 fun lm=>
Cu 6 1 (Bp 3) (1) fun ln=>
A8 pg .add 104 lm ln 201 fun lo=>
A8 pg .mul 104 lo e 203 fun lp=>
Cu 6 1 (Bp 3) (2) fun lq=>
A8 pg .add 104 lp lq 206 fun lr=>
A8 pg .mul 104 lr e 208 fun ls=>
Cu 6 1 (Bp 3) (3) fun lu=>
A8 pg .add 104 ls lu 211 fun lv=>
A8 pg .mul 104 lv e 213 fun lw=>
Cu 6 1 (Bp 3) (4) fun lx=>
A8 pg .add 104 lw lx 216 fun ly=>
A8 pg .mul 104 ly e 218 fun lz=>
Cu 6 1 (Bp 3) (5) fun ma=>
A8 pg .add 104 lz ma 221 fun mb=>
A8 pg .mul 104 lj mb 222 fun mc=>
A8 pg .add 104 li mc 223 fun md=>
A2 R [] [some (AV.sc (.float .f64 md))]) else (
bif ((IntKind.wrap .u64 (w-(4)))==(2)) then (
A8 pg .mul 104 4602678819172646912 e 192 fun me=>
A8 pg .sub 104 4607182418800017408 me 193 fun mf=>
A8 pg .mul 104 e e 196 fun mg=>
Cu 6 1 (Bp 3) (0) fun mh=>
A8 pg .mul 104 mh e 200 fun mi=>
Cu 6 1 (Bp 3) (1) fun mj=>
A8 pg .add 104 mi mj 203 fun mk=>
A8 pg .mul 104 mk e 205 fun ml=>
Cu 6 1 (Bp 3) (2) fun mm=>
A8 pg .add 104 ml mm 208 fun mn=>
A8 pg .mul 104 mn e 210 fun mo=>
Cu 6 1 (Bp 3) (3) fun mp=>
A8 pg .add 104 mo mp 213 fun mq=>
A8 pg .mul 104 mq e 215 fun mr=>
Cu 6 1 (Bp 3) (4) fun ms=>
A8 pg .add 104 mr ms 218 fun mt=>
A8 pg .mul 104 mt e 220 fun mu=>
Cu 6 1 (Bp 3) (5) fun mv=>
A8 pg .add 104 mu mv 223 fun mw=>
A8 pg .mul 104 mg mw 224 fun mx=>
A8 pg .add 104 mf mx 225 fun my=>
A2 R [] [some (AV.sc (.float .f64 my))]) else (
A8 pg .mul 104 p e 194 fun mz=>
Cu 6 1 (Bp 4) (0) fun na=>
A8 pg .mul 104 na e 198 fun nb=>
Cu 6 1 (Bp 4) (1) fun nc=>
A8 pg .add 104 nb nc 201 fun nd=>
A8 pg .mul 104 nd e 203 fun ne=>
Cu 6 1 (Bp 4) (2) fun ng=>
A8 pg .add 104 ne ng 206 fun nh=>
A8 pg .mul 104 nh e 208 fun ni=>
Cu 6 1 (Bp 4) (3) fun nj=>
A8 pg .add 104 ni nj 211 fun nk=>
A8 pg .mul 104 nk e 213 fun nl=>
Cu 6 1 (Bp 4) (4) fun nm=>
A8 pg .add 104 nl nm 216 fun nn=>
A8 pg .mul 104 nn e 218 fun np=>
Cu 6 1 (Bp 4) (5) fun nq=>
A8 pg .add 104 np nq 221 fun nr=>
A8 pg .mul 104 mz nr 222 fun ns=>
A8 pg .add 104 p ns 223 fun nt=>
A2 R [] [some (AV.sc (.float .f64 nt))]))) else (
A8 pg .mul 104 p p 177 fun f=>
bif (w==(1)) then (
A8 pg .mul 104 4602678819172646912 f 184 fun nu=>
A8 pg .sub 104 4607182418800017408 nu 185 fun nv=>
A8 pg .mul 104 f f 188 fun nw=>
Cu 6 1 (Bp 3) (0) fun nx=>
A8 pg .mul 104 nx f 192 fun ny=>
Cu 6 1 (Bp 3) (1) fun nz=>
A8 pg .add 104 ny nz 195 fun oa=>
A8 pg .mul 104 oa f 197 fun ob=>
Cu 6 1 (Bp 3) (2) fun oc=>
A8 pg .add 104 ob oc 200 fun od=>
A8 pg .mul 104 od f 202 fun oe=>
Cu 6 1 (Bp 3) (3) fun of=>
A8 pg .add 104 oe of 205 fun og=>
A8 pg .mul 104 og f 207 fun oh=>
Cu 6 1 (Bp 3) (4) fun oi=>
A8 pg .add 104 oh oi 210 fun oj=>
A8 pg .mul 104 oj f 212 fun ok=>
Cu 6 1 (Bp 3) (5) fun ol=>
A8 pg .add 104 ok ol 215 fun om=>
A8 pg .mul 104 nw om 216 fun on=>
A8 pg .add 104 nv on 217 fun oo=>
Sq pg 104 oo 221 fun op=>
A2 R [] [some (AV.sc (.float .f64 op))]) else (
bif (w==(2)) then (
A8 pg .mul 104 4602678819172646912 f 186 fun oq=>
A8 pg .sub 104 4607182418800017408 oq 187 fun os=>
A8 pg .mul 104 f f 190 fun ot=>
Cu 6 1 (Bp 3) (0) fun ou=>
A8 pg .mul 104 ou f 194 fun ov=>
Cu 6 1 (Bp 3) (1) fun ow=>
A8 pg .add 104 ov ow 197 fun ox=>
A8 pg .mul 104 ox f 199 fun oy=>
Cu 6 1 (Bp 3) (2) fun oz=>
A8 pg .add 104 oy oz 202 fun pa=>
A8 pg .mul 104 pa f 204 fun pb=>
Cu 6 1 (Bp 3) (3) fun pc=>
A8 pg .add 104 pb pc 207 fun pd=>
A8 pg .mul 104 pd f 209 fun pe=>
Cu 6 1 (Bp 3) (4) fun pf=>
A8 pg .add 104 pe pf 212 fun ph=>
A8 pg .mul 104 ph f 214 fun pi=>
Cu 6 1 (Bp 3) (5) fun pj=>
A8 pg .add 104 pi pj 217 fun pk=>
A8 pg .mul 104 ot pk 218 fun pl=>
A8 pg .add 104 os pl 219 fun pm=>
Sq pg 104 pm 223 fun pn=>
A2 R [] [some (AV.sc (.float .f64 pn))]) else (
A8 pg .mul 104 p f 188 fun po=>
Cu 6 1 (Bp 4) (0) fun pp=>
A8 pg .mul 104 pp f 192 fun pq=>
Cu 6 1 (Bp 4) (1) fun pr=>
A8 pg .add 104 pq pr 195 fun ps=>
A8 pg .mul 104 ps f 197 fun pt=>
Cu 6 1 (Bp 4) (2) fun pu=>
A8 pg .add 104 pt pu 200 fun pv=>
A8 pg .mul 104 pv f 202 fun pw=>
Cu 6 1 (Bp 4) (3) fun px=>
A8 pg .add 104 pw px 205 fun py=>
A8 pg .mul 104 py f 207 fun pz=>
Cu 6 1 (Bp 4) (4) fun qa=>
A8 pg .add 104 pz qa 210 fun qb=>
A8 pg .mul 104 qb f 212 fun qc=>
Cu 6 1 (Bp 4) (5) fun qd=>
A8 pg .add 104 qc qd 215 fun qe=>
A8 pg .mul 104 po qe 216 fun qf=>
A8 pg .add 104 p qf 217 fun qg=>
Sq pg 104 qg 221 fun qh=>
A2 R [] [some (AV.sc (.float .f64 qh))])))))) else (
Xz pg .geq 104 4 m 4737786807993761792 144 fun qi=>
bif qi then (
Bd pg KK.gl [] 106 [AV.sc (.float .f64 m)] fun qj=>
Fs qj fun qk ql=>
D7 qk fun x=>
Gv ql fun q=>
bif (decide (x>(3))) then (
A8 pg .mul 104 q q 225 fun g=>
bif ((IntKind.wrap .u64 (x-(4)))==(1)) then (
A8 pg .mul 104 4602678819172646912 g 232 fun qm=>
A8 pg .sub 104 4607182418800017408 qm 233 fun qn=>
A8 pg .mul 104 g g 236 fun qo=>
Cu 6 1 (Bp 3) (0) fun qp=>
A8 pg .mul 104 qp g 240 fun qq=>
Cu 6 1 (Bp 3) (1) fun qr=>
A8 pg .add 104 qq qr 243 fun qs=>
A8 pg .mul 104 qs g 245 fun qt=>
Cu 6 1 (Bp 3) (2) fun qu=>
A8 pg .add 104 qt qu 248 fun qv=>
A8 pg .mul 104 qv g 250 fun qw=>
Cu 6 1 (Bp 3) (3) fun qx=>
A8 pg .add 104 qw qx 253 fun qy=>
A8 pg .mul 104 qy g 255 fun qz=>
Cu 6 1 (Bp 3) (4) fun ra=>
A8 pg .add 104 qz ra 258 fun rb=>
A8 pg .mul 104 rb g 260 fun rc=>
Cu 6 1 (Bp 3) (5) fun rd=>
A8 pg .add 104 rc rd 263 fun re=>
A8 pg .mul 104 qo re 264 fun rf=>
A8 pg .add 104 qn rf 265 fun rg=>
Sq pg 104 rg 269 fun rh=>
A2 R [] [some (AV.sc (.float .f64 rh))]) else (
bif ((IntKind.wrap .u64 (x-(4)))==(2)) then (
A8 pg .mul 104 4602678819172646912 g 234 fun ri=>
A8 pg .sub 104 4607182418800017408 ri 235 fun rj=>
A8 pg .mul 104 g g 238 fun rk=>
Cu 6 1 (Bp 3) (0) fun rl=>
A8 pg .mul 104 rl g 242 fun rm=>
Cu 6 1 (Bp 3) (1) fun rn=>
A8 pg .add 104 rm rn 245 fun ro=>
A8 pg .mul 104 ro g 247 fun rp=>
Cu 6 1 (Bp 3) (2) fun rq=>
A8 pg .add 104 rp rq 250 fun rr=>
A8 pg .mul 104 rr g 252 fun rs=>
Cu 6 1 (Bp 3) (3) fun rt=>
A8 pg .add 104 rs rt 255 fun ru=>
A8 pg .mul 104 ru g 257 fun rv=>
Cu 6 1 (Bp 3) (4) fun rx=>
A8 pg .add 104 rv rx 260 fun ry=>
A8 pg .mul 104 ry g 262 fun rz=>
Cu 6 1 (Bp 3) (5) fun sa=>
A8 pg .add 104 rz sa 265 fun sb=>
A8 pg .mul 104 rk sb 266 fun sd=>
A8 pg .add 104 rj sd 267 fun se=>
Sq pg 104 se 271 fun sf=>
A2 R [] [some (AV.sc (.float .f64 sf))]) else (
A8 pg .mul 104 q g 236 fun sg=>
Cu 6 1 (Bp 4) (0) fun sh=>
A8 pg .mul 104 sh g 240 fun si=>
Cu 6 1 (Bp 4) (1) fun sj=>
A8 pg .add 104 si sj 243 fun sk=>
A8 pg .mul 104 sk g 245 fun sl=>
Cu 6 1 (Bp 4) (2) fun sm=>
A8 pg .add 104 sl sm 248 fun sn=>
A8 pg .mul 104 sn g 250 fun so=>
Cu 6 1 (Bp 4) (3) fun sp=>
A8 pg .add 104 so sp 253 fun sq=>
A8 pg .mul 104 sq g 255 fun sr=>
Cu 6 1 (Bp 4) (4) fun ss=>
A8 pg .add 104 sr ss 258 fun st=>
A8 pg .mul 104 st g 260 fun su=>
Cu 6 1 (Bp 4) (5) fun sv=>
A8 pg .add 104 su sv 263 fun sw=>
A8 pg .mul 104 sg sw 264 fun sx=>
A8 pg .add 104 q sx 265 fun sy=>
Sq pg 104 sy 269 fun sz=>
A2 R [] [some (AV.sc (.float .f64 sz))]))) else (
A8 pg .mul 104 q q 219 fun h=>
bif (x==(1)) then (
A8 pg .mul 104 4602678819172646912 h 226 fun ta=>
A8 pg .sub 104 4607182418800017408 ta 227 fun tb=>
A8 pg .mul 104 h h 230 fun tc=>
Cu 6 1 (Bp 3) (0) fun td=>
A8 pg .mul 104 td h 234 fun te=>
Cu 6 1 (Bp 3) (1) fun tf=>
A8 pg .add 104 te tf 237 fun tg=>
A8 pg .mul 104 tg h 239 fun th=>
Cu 6 1 (Bp 3) (2) fun ti=>
A8 pg .add 104 th ti 242 fun tj=>
A8 pg .mul 104 tj h 244 fun tk=>
Cu 6 1 (Bp 3) (3) fun tl=>
A8 pg .add 104 tk tl 247 fun tm=>
A8 pg .mul 104 tm h 249 fun tn=>
Cu 6 1 (Bp 3) (4) fun to=>
A8 pg .add 104 tn to 252 fun tp=>
A8 pg .mul 104 tp h 254 fun tq=>
Cu 6 1 (Bp 3) (5) fun tr=>
A8 pg .add 104 tq tr 257 fun ts=>
A8 pg .mul 104 tc ts 258 fun tt=>
A8 pg .add 104 tb tt 259 fun tu=>
A2 R [] [some (AV.sc (.float .f64 tu))]) else (
bif (x==(2)) then (
A8 pg .mul 104 4602678819172646912 h 228 fun tv=>
A8 pg .sub 104 4607182418800017408 tv 229 fun tw=>
A8 pg .mul 104 h h 232 fun tx=>
Cu 6 1 (Bp 3) (0) fun ty=>
A8 pg .mul 104 ty h 236 fun tz=>
Cu 6 1 (Bp 3) (1) fun ua=>
A8 pg .add 104 tz ua 239 fun ub=>
A8 pg .mul 104 ub h 241 fun uc=>
Cu 6 1 (Bp 3) (2) fun ud=>
A8 pg .add 104 uc ud 244 fun ue=>
A8 pg .mul 104 ue h 246 fun uf=>
Cu 6 1 (Bp 3) (3) fun ug=>
A8 pg .add 104 uf ug 249 fun uh=>
A8 pg .mul 104 uh h 251 fun ui=>
Cu 6 1 (Bp 3) (4) fun uj=>
A8 pg .add 104 ui uj 254 fun uk=>
A8 pg .mul 104 uk h 256 fun ul=>
Cu 6 1 (Bp 3) (5) fun um=>
A8 pg .add 104 ul um 259 fun un=>
A8 pg .mul 104 tx un 260 fun uo=>
A8 pg .add 104 tw uo 261 fun uq=>
A2 R [] [some (AV.sc (.float .f64 uq))]) else (
A8 pg .mul 104 q h 230 fun ur=>
Cu 6 1 (Bp 4) (0) fun us=>
A8 pg .mul 104 us h 234 fun ut=>
Cu 6 1 (Bp 4) (1) fun uu=>
A8 pg .add 104 ut uu 237 fun uv=>
A8 pg .mul 104 uv h 239 fun uw=>
Cu 6 1 (Bp 4) (2) fun ux=>
A8 pg .add 104 uw ux 242 fun uy=>
A8 pg .mul 104 uy h 244 fun uz=>
Cu 6 1 (Bp 4) (3) fun va=>
A8 pg .add 104 uz va 247 fun vb=>
A8 pg .mul 104 vb h 249 fun vc=>
Cu 6 1 (Bp 4) (4) fun vd=>
A8 pg .add 104 vc vd 252 fun ve=>
A8 pg .mul 104 ve h 254 fun vf=>
Cu 6 1 (Bp 4) (5) fun vg=>
A8 pg .add 104 vf vg 257 fun vh=>
A8 pg .mul 104 ur vh 258 fun vj=>
A8 pg .add 104 q vj 259 fun vk=>
A2 R [] [some (AV.sc (.float .f64 vk))])))) else (
A8 pg .mul 104 m 4608412980311869571 146 fun vl=>
Bo (Cs pg (.convert 104 133 (.tmp 0)) 133 [AV.sc (.float .f64 vl)] (Am []) 147) fun vn=>
D7 vn fun ad=>
Bo (Cs pg (.convert 133 104 (.tmp 0)) 104 [AV.sc (.int .u64 ad)] (Am []) 150) fun vo=>
Gv vo fun ae=>
Bo (Cs pg (.binOp .and 133 (.tmp 0) (.tmp 1) 133) 133 [AV.sc (.int .u64 ad),AV.sc (.int .u64 (1))] (Am []) 153) fun vp=>
D7 vp fun vq=>
bif (vq==(1)) then (
A8 pg .add 104 ae 4607182418800017408 159 fun ag=>
Bo (Cs pg (.binOp .and 133 (.tmp 0) (.tmp 1) 133) 133 [AV.sc (.int .u64 (IntKind.wrap .u64 (ad+(1)))),AV.sc (.int .u64 (7))] (Am []) 162) fun vr=>
D7 vr fun y=>
A8 pg .mul 104 ag 4605249456957292544 166 fun vs=>
A8 pg .sub 104 m vs 167 fun vt=>
A8 pg .mul 104 ag 4495793288086814720 169 fun vu=>
A8 pg .sub 104 vt vu 170 fun vv=>
A8 pg .mul 104 ag 4388835458085048688 172 fun vw=>
A8 pg .sub 104 vv vw 173 fun r=>
bif (decide (y>(3))) then (
A8 pg .mul 104 r r 185 fun i=>
bif ((IntKind.wrap .u64 (y-(4)))==(1)) then (
A8 pg .mul 104 4602678819172646912 i 192 fun vx=>
A8 pg .sub 104 4607182418800017408 vx 193 fun vy=>
A8 pg .mul 104 i i 196 fun vz=>
Cu 6 1 (Bp 3) (0) fun wa=>
A8 pg .mul 104 wa i 200 fun wb=>
Cu 6 1 (Bp 3) (1) fun wc=>
A8 pg .add 104 wb wc 203 fun wd=>
A8 pg .mul 104 wd i 205 fun we=>
Cu 6 1 (Bp 3) (2) fun wf=>
A8 pg .add 104 we wf 208 fun wg=>
A8 pg .mul 104 wg i 210 fun wh=>
Cu 6 1 (Bp 3) (3) fun wi=>
A8 pg .add 104 wh wi 213 fun wj=>
A8 pg .mul 104 wj i 215 fun wk=>
Cu 6 1 (Bp 3) (4) fun wl=>
A8 pg .add 104 wk wl 218 fun wm=>
A8 pg .mul 104 wm i 220 fun wn=>
Cu 6 1 (Bp 3) (5) fun wo=>
A8 pg .add 104 wn wo 223 fun wp=>
A8 pg .mul 104 vz wp 224 fun wq=>
A8 pg .add 104 vy wq 225 fun wr=>
Sq pg 104 wr 229 fun ws=>
A2 R [] [some (AV.sc (.float .f64 ws))]) else (
bif ((IntKind.wrap .u64 (y-(4)))==(2)) then (
A8 pg .mul 104 4602678819172646912 i 194 fun wt=>
A8 pg .sub 104 4607182418800017408 wt 195 fun wu=>
A8 pg .mul 104 i i 198 fun wv=>
Cu 6 1 (Bp 3) (0) fun ww=>
A8 pg .mul 104 ww i 202 fun wx=>
Cu 6 1 (Bp 3) (1) fun wy=>
A8 pg .add 104 wx wy 205 fun wz=>
A8 pg .mul 104 wz i 207 fun xa=>
Cu 6 1 (Bp 3) (2) fun xb=>
A8 pg .add 104 xa xb 210 fun xc=>
A8 pg .mul 104 xc i 212 fun xd=>
Cu 6 1 (Bp 3) (3) fun xe=>
A8 pg .add 104 xd xe 215 fun xf=>
A8 pg .mul 104 xf i 217 fun xg=>
Cu 6 1 (Bp 3) (4) fun xh=>
A8 pg .add 104 xg xh 220 fun xi=>
A8 pg .mul 104 xi i 222 fun xj=>
Cu 6 1 (Bp 3) (5) fun xk=>
A8 pg .add 104 xj xk 225 fun xl=>
A8 pg .mul 104 wv xl 226 fun xm=>
A8 pg .add 104 wu xm 227 fun xn=>
Sq pg 104 xn 231 fun xo=>
A2 R [] [some (AV.sc (.float .f64 xo))]) else (
A8 pg .mul 104 r i 196 fun xp=>
Cu 6 1 (Bp 4) (0) fun xq=>
A8 pg .mul 104 xq i 200 fun xr=>
Cu 6 1 (Bp 4) (1) fun xs=>
A8 pg .add 104 xr xs 203 fun xt=>
A8 pg .mul 104 xt i 205 fun xu=>
Cu 6 1 (Bp 4) (2) fun xv=>
A8 pg .add 104 xu xv 208 fun xw=>
A8 pg .mul 104 xw i 210 fun xx=>
Cu 6 1 (Bp 4) (3) fun xy=>
A8 pg .add 104 xx xy 213 fun xz=>
A8 pg .mul 104 xz i 215 fun ya=>
Cu 6 1 (Bp 4) (4) fun yb=>
A8 pg .add 104 ya yb 218 fun yc=>
A8 pg .mul 104 yc i 220 fun yd=>
Cu 6 1 (Bp 4) (5) fun ye=>
A8 pg .add 104 yd ye 223 fun yf=>
A8 pg .mul 104 xp yf 224 fun yg=>
A8 pg .add 104 r yg 225 fun yh=>
Sq pg 104 yh 229 fun yi=>
A2 R [] [some (AV.sc (.float .f64 yi))]))) else (
A8 pg .mul 104 r r 179 fun j=>
bif (y==(1)) then (
A8 pg .mul 104 4602678819172646912 j 186 fun yj=>
A8 pg .sub 104 4607182418800017408 yj 187 fun yk=>
A8 pg .mul 104 j j 190 fun yl=>
Cu 6 1 (Bp 3) (0) fun ym=>
A8 pg .mul 104 ym j 194 fun yn=>
Cu 6 1 (Bp 3) (1) fun yo=>
A8 pg .add 104 yn yo 197 fun yp=>
A8 pg .mul 104 yp j 199 fun yq=>
Cu 6 1 (Bp 3) (2) fun yr=>
A8 pg .add 104 yq yr 202 fun ys=>
A8 pg .mul 104 ys j 204 fun yt=>
Cu 6 1 (Bp 3) (3) fun yu=>
A8 pg .add 104 yt yu 207 fun yv=>
A8 pg .mul 104 yv j 209 fun yw=>
Cu 6 1 (Bp 3) (4) fun yx=>
A8 pg .add 104 yw yx 212 fun yy=>
A8 pg .mul 104 yy j 214 fun yz=>
Cu 6 1 (Bp 3) (5) fun za=>
A8 pg .add 104 yz za 217 fun zb=>
A8 pg .mul 104 yl zb 218 fun zc=>
A8 pg .add 104 yk zc 219 fun zd=>
A2 R [] [some (AV.sc (.float .f64 zd))]) else (
bif (y==(2)) then (
A8 pg .mul 104 4602678819172646912 j 188 fun ze=>
A8 pg .sub 104 4607182418800017408 ze 189 fun zf=>
A8 pg .mul 104 j j 192 fun zg=>
Cu 6 1 (Bp 3) (0) fun zh=>
A8 pg .mul 104 zh j 196 fun zi=>
Cu 6 1 (Bp 3) (1) fun zj=>
A8 pg .add 104 zi zj 199 fun zk=>
A8 pg .mul 104 zk j 201 fun zl=>
Cu 6 1 (Bp 3) (2) fun zm=>
A8 pg .add 104 zl zm 204 fun zn=>
A8 pg .mul 104 zn j 206 fun zo=>
Cu 6 1 (Bp 3) (3) fun zp=>
A8 pg .add 104 zo zp 209 fun zq=>
A8 pg .mul 104 zq j 211 fun zr=>
Cu 6 1 (Bp 3) (4) fun zs=>
A8 pg .add 104 zr zs 214 fun zt=>
A8 pg .mul 104 zt j 216 fun zu=>
Cu 6 1 (Bp 3) (5) fun zv=>
A8 pg .add 104 zu zv 219 fun zw=>
A8 pg .mul 104 zg zw 220 fun zx=>
A8 pg .add 104 zf zx 221 fun zy=>
A2 R [] [some (AV.sc (.float .f64 zy))]) else (
A8 pg .mul 104 r j 190 fun zz=>
Cu 6 1 (Bp 4) (0) fun r1498=>
A8 pg .mul 104 r1498 j 194 fun r1500=>
Cu 6 1 (Bp 4) (1) fun r1503=>
A8 pg .add 104 r1500 r1503 197 fun r1505=>
A8 pg .mul 104 r1505 j 199 fun r1507=>
Cu 6 1 (Bp 4) (2) fun r1510=>
A8 pg .add 104 r1507 r1510 202 fun r1512=>
A8 pg .mul 104 r1512 j 204 fun r1514=>
Cu 6 1 (Bp 4) (3) fun r1517=>
A8 pg .add 104 r1514 r1517 207 fun r1519=>
A8 pg .mul 104 r1519 j 209 fun r1521=>
Cu 6 1 (Bp 4) (4) fun r1524=>
A8 pg .add 104 r1521 r1524 212 fun r1526=>
A8 pg .mul 104 r1526 j 214 fun r1528=>
Cu 6 1 (Bp 4) (5) fun r1531=>
A8 pg .add 104 r1528 r1531 217 fun r1533=>
A8 pg .mul 104 zz r1533 218 fun r1535=>
A8 pg .add 104 r r1535 219 fun r1537=>
A2 R [] [some (AV.sc (.float .f64 r1537))])))) else (
Bo (Cs pg (.binOp .and 133 (.tmp 0) (.tmp 1) 133) 133 [AV.sc (.int .u64 ad),AV.sc (.int .u64 (7))] (Am []) 156) fun v1538=>
D7 v1538 fun z=>
A8 pg .mul 104 ae 4605249456957292544 160 fun r1541=>
A8 pg .sub 104 m r1541 161 fun r1543=>
A8 pg .mul 104 ae 4495793288086814720 163 fun r1545=>
A8 pg .sub 104 r1543 r1545 164 fun r1547=>
A8 pg .mul 104 ae 4388835458085048688 166 fun r1549=>
A8 pg .sub 104 r1547 r1549 167 fun s=>
bif (decide (z>(3))) then (
A8 pg .mul 104 s s 179 fun k=>
bif ((IntKind.wrap .u64 (z-(4)))==(1)) then (
A8 pg .mul 104 4602678819172646912 k 186 fun r1555=>
A8 pg .sub 104 4607182418800017408 r1555 187 fun r1557=>
A8 pg .mul 104 k k 190 fun r1559=>
Cu 6 1 (Bp 3) (0) fun r1562=>
A8 pg .mul 104 r1562 k 194 fun r1564=>
Cu 6 1 (Bp 3) (1) fun r1567=>
A8 pg .add 104 r1564 r1567 197 fun r1569=>
A8 pg .mul 104 r1569 k 199 fun r1571=>
Cu 6 1 (Bp 3) (2) fun r1574=>
A8 pg .add 104 r1571 r1574 202 fun r1576=>
A8 pg .mul 104 r1576 k 204 fun r1578=>
Cu 6 1 (Bp 3) (3) fun r1581=>
A8 pg .add 104 r1578 r1581 207 fun r1583=>
A8 pg .mul 104 r1583 k 209 fun r1585=>
Cu 6 1 (Bp 3) (4) fun r1588=>
A8 pg .add 104 r1585 r1588 212 fun r1590=>
A8 pg .mul 104 r1590 k 214 fun r1592=>
Cu 6 1 (Bp 3) (5) fun r1595=>
A8 pg .add 104 r1592 r1595 217 fun r1597=>
A8 pg .mul 104 r1559 r1597 218 fun r1599=>
A8 pg .add 104 r1557 r1599 219 fun r1601=>
Sq pg 104 r1601 223 fun r1603=>
A2 R [] [some (AV.sc (.float .f64 r1603))]) else (
bif ((IntKind.wrap .u64 (z-(4)))==(2)) then (
A8 pg .mul 104 4602678819172646912 k 188 fun r1605=>
A8 pg .sub 104 4607182418800017408 r1605 189 fun r1607=>
A8 pg .mul 104 k k 192 fun r1609=>
Cu 6 1 (Bp 3) (0) fun r1612=>
A8 pg .mul 104 r1612 k 196 fun r1614=>
Cu 6 1 (Bp 3) (1) fun r1617=>
A8 pg .add 104 r1614 r1617 199 fun r1619=>
A8 pg .mul 104 r1619 k 201 fun r1621=>
Cu 6 1 (Bp 3) (2) fun r1624=>
A8 pg .add 104 r1621 r1624 204 fun r1626=>
A8 pg .mul 104 r1626 k 206 fun r1628=>
Cu 6 1 (Bp 3) (3) fun r1631=>
A8 pg .add 104 r1628 r1631 209 fun r1633=>
A8 pg .mul 104 r1633 k 211 fun r1635=>
Cu 6 1 (Bp 3) (4) fun r1638=>
A8 pg .add 104 r1635 r1638 214 fun r1640=>
A8 pg .mul 104 r1640 k 216 fun r1642=>
Cu 6 1 (Bp 3) (5) fun r1645=>
A8 pg .add 104 r1642 r1645 219 fun r1647=>
A8 pg .mul 104 r1609 r1647 220 fun r1649=>
A8 pg .add 104 r1607 r1649 221 fun r1651=>
Sq pg 104 r1651 225 fun r1653=>
A2 R [] [some (AV.sc (.float .f64 r1653))]) else (
A8 pg .mul 104 s k 190 fun r1655=>
Cu 6 1 (Bp 4) (0) fun r1658=>
A8 pg .mul 104 r1658 k 194 fun r1660=>
Cu 6 1 (Bp 4) (1) fun r1663=>
A8 pg .add 104 r1660 r1663 197 fun r1665=>
A8 pg .mul 104 r1665 k 199 fun r1667=>
Cu 6 1 (Bp 4) (2) fun r1670=>
A8 pg .add 104 r1667 r1670 202 fun r1672=>
A8 pg .mul 104 r1672 k 204 fun r1674=>
Cu 6 1 (Bp 4) (3) fun r1677=>
A8 pg .add 104 r1674 r1677 207 fun r1679=>
A8 pg .mul 104 r1679 k 209 fun r1681=>
Cu 6 1 (Bp 4) (4) fun r1684=>
A8 pg .add 104 r1681 r1684 212 fun r1686=>
A8 pg .mul 104 r1686 k 214 fun r1688=>
Cu 6 1 (Bp 4) (5) fun r1691=>
A8 pg .add 104 r1688 r1691 217 fun r1693=>
A8 pg .mul 104 r1655 r1693 218 fun r1695=>
A8 pg .add 104 s r1695 219 fun r1697=>
Sq pg 104 r1697 223 fun r1699=>
A2 R [] [some (AV.sc (.float .f64 r1699))]))) else (
A8 pg .mul 104 s s 173 fun l=>
bif (z==(1)) then (
A8 pg .mul 104 4602678819172646912 l 180 fun r1703=>
A8 pg .sub 104 4607182418800017408 r1703 181 fun r1705=>
A8 pg .mul 104 l l 184 fun r1707=>
Cu 6 1 (Bp 3) (0) fun r1710=>
A8 pg .mul 104 r1710 l 188 fun r1712=>
Cu 6 1 (Bp 3) (1) fun r1715=>
A8 pg .add 104 r1712 r1715 191 fun r1717=>
A8 pg .mul 104 r1717 l 193 fun r1719=>
Cu 6 1 (Bp 3) (2) fun r1722=>
A8 pg .add 104 r1719 r1722 196 fun r1724=>
A8 pg .mul 104 r1724 l 198 fun r1726=>
Cu 6 1 (Bp 3) (3) fun r1729=>
A8 pg .add 104 r1726 r1729 201 fun r1731=>
A8 pg .mul 104 r1731 l 203 fun r1733=>
Cu 6 1 (Bp 3) (4) fun r1736=>
A8 pg .add 104 r1733 r1736 206 fun r1738=>
A8 pg .mul 104 r1738 l 208 fun r1740=>
Cu 6 1 (Bp 3) (5) fun r1743=>
A8 pg .add 104 r1740 r1743 211 fun r1745=>
A8 pg .mul 104 r1707 r1745 212 fun r1747=>
A8 pg .add 104 r1705 r1747 213 fun r1749=>
A2 R [] [some (AV.sc (.float .f64 r1749))]) else (
bif (z==(2)) then (
A8 pg .mul 104 4602678819172646912 l 182 fun r1751=>
A8 pg .sub 104 4607182418800017408 r1751 183 fun r1753=>
A8 pg .mul 104 l l 186 fun r1755=>
Cu 6 1 (Bp 3) (0) fun r1758=>
A8 pg .mul 104 r1758 l 190 fun r1760=>
Cu 6 1 (Bp 3) (1) fun r1763=>
A8 pg .add 104 r1760 r1763 193 fun r1765=>
A8 pg .mul 104 r1765 l 195 fun r1767=>
Cu 6 1 (Bp 3) (2) fun r1770=>
A8 pg .add 104 r1767 r1770 198 fun r1772=>
A8 pg .mul 104 r1772 l 200 fun r1774=>
Cu 6 1 (Bp 3) (3) fun r1777=>
A8 pg .add 104 r1774 r1777 203 fun r1779=>
A8 pg .mul 104 r1779 l 205 fun r1781=>
Cu 6 1 (Bp 3) (4) fun r1784=>
A8 pg .add 104 r1781 r1784 208 fun r1786=>
A8 pg .mul 104 r1786 l 210 fun r1788=>
Cu 6 1 (Bp 3) (5) fun r1791=>
A8 pg .add 104 r1788 r1791 213 fun r1793=>
A8 pg .mul 104 r1755 r1793 214 fun r1795=>
A8 pg .add 104 r1753 r1795 215 fun r1797=>
A2 R [] [some (AV.sc (.float .f64 r1797))]) else (
A8 pg .mul 104 s l 184 fun r1799=>
Cu 6 1 (Bp 4) (0) fun r1802=>
A8 pg .mul 104 r1802 l 188 fun r1804=>
Cu 6 1 (Bp 4) (1) fun r1807=>
A8 pg .add 104 r1804 r1807 191 fun r1809=>
A8 pg .mul 104 r1809 l 193 fun r1811=>
Cu 6 1 (Bp 4) (2) fun r1814=>
A8 pg .add 104 r1811 r1814 196 fun r1816=>
A8 pg .mul 104 r1816 l 198 fun r1818=>
Cu 6 1 (Bp 4) (3) fun r1821=>
A8 pg .add 104 r1818 r1821 201 fun r1823=>
A8 pg .mul 104 r1823 l 203 fun r1825=>
Cu 6 1 (Bp 4) (4) fun r1828=>
A8 pg .add 104 r1825 r1828 206 fun r1830=>
A8 pg .mul 104 r1830 l 208 fun r1832=>
Cu 6 1 (Bp 4) (5) fun r1835=>
A8 pg .add 104 r1832 r1835 211 fun r1837=>
A8 pg .mul 104 r1799 r1837 212 fun r1839=>
A8 pg .add 104 s r1839 213 fun r1841=>
A2 R [] [some (AV.sc (.float .f64 r1841))])))))))))
theorem mC (a:Nat) (R:AV→Mem→Prop) (h:vM a R):Own pg KK.gl 101 [AV.sc (.float .f64 a)] R:=Bk Ee Tryz.func101 (code:=mH) Bi Bi Bi (X:=vM a R) Bi h
noncomputable def c92:Code:=((Tryz.f92).body).getD .skip
noncomputable def q92 (R:AV→Mem→Prop):Bh→St→Prop:=C8 pg Tryz.f92 R
noncomputable def F92 (a:Nat) (R:AV→Mem→Prop):Prop:=
Bd pg KK.gl [] 101 [AV.sc (.float .f64 a)] fun b=>
Gv b fun c=>
A2 R [] [some (AV.sc (.float .f64 c))]
theorem sF (a:Nat) (R:AV→Mem→Prop) (h:F92 a R):Own pg KK.gl 92 [AV.sc (.float .f64 a)] R:=Bk Ee Tryz.func92 (code:=c92) Bi Bi Bi (X:=F92 a R) Bi h
noncomputable def c91:Code:=((Tryz.f91).body).getD .skip
noncomputable def q91 (R:AV→Mem→Prop):Bh→St→Prop:=C8 pg Tryz.f91 R
noncomputable def F91 (d:Nat) (R:AV→Mem→Prop):Prop:=
Bd pg KK.gl [] 97 [AV.sc (.float .f64 d)] fun e=>
D7 e fun b=>
Bo (Cs pg (.binOp .shr 133 (.tmp 0) (.tmp 1) 118) 133 [AV.sc (.int .u64 b),AV.sc (.int .u64 (52))] (Am []) 68) fun f=>
D7 f fun g=>
Bo (Cs pg (.binOp .and 118 (.tmp 0) (.tmp 1) 118) 118 [AV.sc (.int .u64 g),AV.sc (.int .u64 (2047))] (Am []) 69) fun h=>
D7 h fun a=>
bif (decide (a<(1023))) then (
Bo (Cs pg (.binOp .and 133 (.tmp 0) (.tmp 1) 133) 133 [AV.sc (.int .u64 b),AV.sc (.int .u64 (9223372036854775808))] (Am []) 74) fun i=>
D7 i fun c=>
bif (a==(1022)) then (
Bo (Cs pg (.binOp .or 133 (.tmp 0) (.tmp 1) 133) 133 [AV.sc (.int .u64 c),AV.sc (.int .u64 (4607182418800017408))] (Am []) 79) fun j=>
D7 j fun k=>
Bd pg KK.gl [] 96 [AV.sc (.int .u64 k)] fun l=>
Gv l fun m=>
A2 R [] [some (AV.sc (.float .f64 m))]) else (
Bd pg KK.gl [] 96 [AV.sc (.int .u64 c)] fun n=>
Gv n fun o=>
A2 R [] [some (AV.sc (.float .f64 o))])) else (
bif (decide (a<(1075))) then (
Bo (Cs pg (.binOp .shr 133 (.tmp 0) (.tmp 1) 118) 133 [AV.sc (.int .u64 (2251799813685248)),AV.sc (.int .u64 (IntKind.wrap .u64 (a-(1023))))] (Am []) 80) fun p=>
D7 p fun q=>
Bo (Cs pg (.binOp .shr 133 (.tmp 0) (.tmp 1) 118) 133 [AV.sc (.int .u64 (4503599627370495)),AV.sc (.int .u64 (IntKind.wrap .u64 (a-(1023))))] (Am []) 85) fun r=>
D7 r fun s=>
Bo (Cs pg (.binOp .andNot 133 (.tmp 0) (.tmp 1) 133) 133 [AV.sc (.int .u64 (IntKind.wrap .u64 (b+q))),AV.sc (.int .u64 s)] (Am []) 86) fun t=>
D7 t fun u=>
Bd pg KK.gl [] 96 [AV.sc (.int .u64 u)] fun v=>
Gv v fun w=>
A2 R [] [some (AV.sc (.float .f64 w))]) else (
Bd pg KK.gl [] 96 [AV.sc (.int .u64 b)] fun x=>
Gv x fun y=>
A2 R [] [some (AV.sc (.float .f64 y))]))
theorem uL (a:Nat) (R:AV→Mem→Prop) (h:F91 a R):Own pg KK.gl 91 [AV.sc (.float .f64 a)] R:=Bk Ee Tryz.func91 (code:=c91) Bi Bi Bi (X:=F91 a R) Bi h
noncomputable def c76:Code:=((Tryz.f76).body).getD .skip
noncomputable def q76 (R:AV→Mem→Prop):Bh→St→Prop:=C8 pg Tryz.f76 R
noncomputable def F76 (a:Int) (R:AV→Mem→Prop):Prop:=
Bd pg KK.gl [] 25 [Aa a] fun b=>
Af b fun c=>
Bo (Cs pg (.convert 3 104 (.tmp 0)) 104 [Aa c] (Am []) 66) fun d=>
Gv d fun e=>
A8 pg .mul 104 e 4614256656552045848 67 fun f=>
A8 pg .quo 104 f 4656722014701092864 68 fun g=>
Bd pg KK.gl [] 92 [AV.sc (.float .f64 g)] fun h=>
Gv h fun i=>
A8 pg .mul 104 4670232813583204352 i 133 fun j=>
Bd pg KK.gl [] 91 [AV.sc (.float .f64 j)] fun k=>
Gv k fun l=>
Bo (Cs pg (.convert 104 3 (.tmp 0)) 3 [AV.sc (.float .f64 l)] (Am []) 198) fun m=>
Af m fun n=>
A2 R [] [some (Aa n)]
theorem rD (a:Int) (R:AV→Mem→Prop) (h:F76 a R):Own pg KK.gl 76 [Aa a] R:=Bk Ee Tryz.func76 (code:=c76) Bi Bi Bi (X:=F76 a R) Bi h
noncomputable def c77:Code:=((Tryz.f77).body).getD .skip
noncomputable def q77 (R:AV→Mem→Prop):Bh→St→Prop:=C8 pg Tryz.f77 R
noncomputable def F77 (a:Int) (R:AV→Mem→Prop):Prop:=
Bd pg KK.gl [] 25 [Aa a] fun b=>
Af b fun c=>
Bd pg KK.gl [] 76 [Aa (IntKind.wrap .i64 (c+(1024)))] fun d=>
Af d fun e=>
A2 R [] [some (Aa e)]
theorem rJ (a:Int) (R:AV→Mem→Prop) (h:F77 a R):Own pg KK.gl 77 [Aa a] R:=Bk Ee Tryz.func77 (code:=c77) Bi Bi Bi (X:=F77 a R) Bi h
noncomputable def yW:Code:=((Tryz.f88).body).getD .skip
noncomputable def q88 (R:AV→Mem→Prop):Bh→St→Prop:=C8 pg Tryz.f88 R
noncomputable def F88 (a:Nat) (R:AV→Mem→Prop):Prop:=
Bd pg KK.gl [] 97 [AV.sc (.float .f64 a)] fun b=>
D7 b fun c=>
Bo (Cs pg (.convert 133 2 (.tmp 0)) 2 [AV.sc (.int .u64 c)] (Am []) 66) fun d=>
Af d fun e=>
A2 R [] [some (Ah (decide (e<(0))))]
theorem qH (a:Nat) (R:AV→Mem→Prop) (h:F88 a R):Own pg KK.gl 88 [AV.sc (.float .f64 a)] R:=Bk Ee Tryz.func88 (code:=yW) Bi Bi Bi (X:=F88 a R) Bi h
noncomputable def c89:Code:=((Tryz.f89).body).getD .skip
noncomputable def q89 (R:AV→Mem→Prop):Bh→St→Prop:=C8 pg Tryz.f89 R
noncomputable def F89 (a b:Nat) (R:AV→Mem→Prop):Prop:=
Bd pg KK.gl [] 97 [AV.sc (.float .f64 a)] fun c=>
D7 c fun d=>
Bo (Cs pg (.binOp .andNot 133 (.tmp 0) (.tmp 1) 133) 133 [AV.sc (.int .u64 d),AV.sc (.int .u64 (9223372036854775808))] (Am []) 66) fun e=>
D7 e fun f=>
Bd pg KK.gl [] 97 [AV.sc (.float .f64 b)] fun g=>
D7 g fun h=>
Bo (Cs pg (.binOp .and 133 (.tmp 0) (.tmp 1) 133) 133 [AV.sc (.int .u64 h),AV.sc (.int .u64 (9223372036854775808))] (Am []) 132) fun i=>
D7 i fun j=>
Bo (Cs pg (.binOp .or 133 (.tmp 0) (.tmp 1) 133) 133 [AV.sc (.int .u64 f),AV.sc (.int .u64 j)] (Am []) 133) fun k=>
D7 k fun l=>
Bd pg KK.gl [] 96 [AV.sc (.int .u64 l)] fun m=>
Gv m fun n=>
A2 R [] [some (AV.sc (.float .f64 n))]
theorem pA (a b:Nat) (R:AV→Mem→Prop) (h:F89 a b R):Own pg KK.gl 89 [AV.sc (.float .f64 a),AV.sc (.float .f64 b)] R:=Bk Ee Tryz.func89 (code:=c89) Bi Bi Bi (X:=F89 a b R) Bi h
noncomputable def zX:Code:=((Tryz.f107).body).getD .skip
noncomputable def Ah8 (R:AV→Mem→Prop):Bh→St→Prop:=C8 pg Tryz.f107 R
noncomputable def wJ (b:Nat) (R:AV→Mem→Prop):Prop:=
A8 pg .mul 104 b b 3 fun a=>
A8 pg .mul 104 13829429103926125972 a 7 fun c=>
A8 pg .add 104 c 13848613196940411002 8 fun d=>
A8 pg .mul 104 d a 10 fun e=>
A8 pg .add 104 e 13858350711815275123 11 fun f=>
A8 pg .mul 104 f a 13 fun g=>
A8 pg .add 104 g 13861719834326579749 14 fun h=>
A8 pg .mul 104 h a 16 fun i=>
A8 pg .add 104 i 13857635882265799822 17 fun j=>
A8 pg .mul 104 a j 18 fun k=>
A8 pg .add 104 a 4627690253511319612 20 fun l=>
A8 pg .mul 104 l a 22 fun m=>
A8 pg .add 104 m 4640010388282866213 23 fun n=>
A8 pg .mul 104 n a 25 fun o=>
A8 pg .add 104 o 4646322940342877755 26 fun p=>
A8 pg .mul 104 p a 28 fun q=>
A8 pg .add 104 q 4647246694406179306 29 fun r=>
A8 pg .mul 104 r a 31 fun s=>
A8 pg .add 104 s 4641049159275471596 32 fun t=>
A8 pg .quo 104 k t 33 fun u=>
A8 pg .mul 104 b u 37 fun v=>
A8 pg .add 104 v b 39 fun w=>
A2 R [] [some (AV.sc (.float .f64 w))]
theorem oL (a:Nat) (R:AV→Mem→Prop) (h:wJ a R):Own pg KK.gl 107 [AV.sc (.float .f64 a)] R:=Bk Ee Tryz.func107 (code:=zX) Bi Bi Bi (X:=wJ a R) Bi h
noncomputable def jU:Code:=((Tryz.f105).body).getD .skip
noncomputable def Ah2 (R:AV→Mem→Prop):Bh→St→Prop:=C8 pg Tryz.f105 R
noncomputable def qF (a:Nat) (R:AV→Mem→Prop):Prop:=
Xz pg .leq 104 4 a 4604119971053405471 2 fun b=>
bif b then (
Bd pg KK.gl [] 107 [AV.sc (.float .f64 a)] fun c=>
Gv c fun d=>
A2 R [] [some (AV.sc (.float .f64 d))]) else (
Xz pg .gtr 104 4 a 4612618744449965542 4 fun e=>
bif e then (
A8 pg .quo 104 4607182418800017408 a 6 fun f=>
Bd pg KK.gl [] 107 [AV.sc (.float .f64 f)] fun g=>
Gv g fun h=>
A8 pg .sub 104 4609753056924675352 h 71 fun i=>
A8 pg .add 104 i 4364452196894661639 72 fun j=>
A2 R [] [some (AV.sc (.float .f64 j))]) else (
A8 pg .sub 104 a 4607182418800017408 6 fun k=>
A8 pg .add 104 a 4607182418800017408 8 fun l=>
A8 pg .quo 104 k l 9 fun m=>
Bd pg KK.gl [] 107 [AV.sc (.float .f64 m)] fun n=>
Gv n fun o=>
A8 pg .add 104 4605249457297304856 o 74 fun p=>
A8 pg .add 104 p 4359948597267291143 75 fun q=>
A2 R [] [some (AV.sc (.float .f64 q))]))
theorem lK (a:Nat) (R:AV→Mem→Prop) (h:qF a R):Own pg KK.gl 105 [AV.sc (.float .f64 a)] R:=Bk Ee Tryz.func105 (code:=jU) Bi Bi Bi (X:=qF a R) Bi h
noncomputable def c99:Code:=((Tryz.f99).body).getD .skip
noncomputable def q99 (R:AV→Mem→Prop):Bh→St→Prop:=C8 pg Tryz.f99 R
noncomputable def F99 (a:Nat) (R:AV→Mem→Prop):Prop:=
Xz pg .eql 104 4 a 0 2 fun b=>
bif b then (
A2 R [] [some (AV.sc (.float .f64 a))]) else (
Xz pg .gtr 104 4 a 0 4 fun c=>
bif c then (
Bd pg KK.gl [] 105 [AV.sc (.float .f64 a)] fun d=>
Gv d fun e=>
A2 R [] [some (AV.sc (.float .f64 e))]) else (
Sq pg 104 a 6 fun f=>
Bd pg KK.gl [] 105 [AV.sc (.float .f64 f)] fun g=>
Gv g fun h=>
Sq pg 104 h 71 fun i=>
A2 R [] [some (AV.sc (.float .f64 i))]))
theorem uV (a:Nat) (R:AV→Mem→Prop) (h:F99 a R):Own pg KK.gl 99 [AV.sc (.float .f64 a)] R:=Bk Ee Tryz.func99 (code:=c99) Bi Bi Bi (X:=F99 a R) Bi h
noncomputable def c90:Code:=((Tryz.f90).body).getD .skip
noncomputable def q90 (R:AV→Mem→Prop):Bh→St→Prop:=C8 pg Tryz.f90 R
noncomputable def F90 (a:Nat) (R:AV→Mem→Prop):Prop:=
Bd pg KK.gl [] 99 [AV.sc (.float .f64 a)] fun b=>
Gv b fun c=>
A2 R [] [some (AV.sc (.float .f64 c))]
theorem pK (a:Nat) (R:AV→Mem→Prop) (h:F90 a R):Own pg KK.gl 90 [AV.sc (.float .f64 a)] R:=Bk Ee Tryz.func90 (code:=c90) Bi Bi Bi (X:=F90 a R) Bi h
noncomputable def c75:Code:=((Tryz.f75).body).getD .skip
noncomputable def q75 (R:AV→Mem→Prop):Bh→St→Prop:=C8 pg Tryz.f75 R
noncomputable def F75 (a b:Nat) (R:AV→Mem→Prop):Prop:=
Bd pg KK.gl [] 84 [AV.sc (.float .f64 a)] fun d=>
Hr d fun e=>
bif e then (
Bd pg KK.gl [] 87 [] fun f=>
Gv f fun g=>
A2 R [] [some (AV.sc (.float .f64 g))]) else (
Bd pg KK.gl [] 84 [AV.sc (.float .f64 b)] fun h=>
Hr h fun i=>
bif i then (
Bd pg KK.gl [] 87 [] fun j=>
Gv j fun k=>
A2 R [] [some (AV.sc (.float .f64 k))]) else (
Xz pg .eql 104 4 a 0 135 fun l=>
bif l then (
Xz pg .geq 104 4 b 0 138 fun m=>
bif m then (
Bd pg KK.gl [] 88 [AV.sc (.float .f64 b)] fun n=>
Hr n fun o=>
bif (!o) then (
Bd pg KK.gl [] 89 [AV.sc (.float .f64 0),AV.sc (.float .f64 a)] fun p=>
Gv p fun q=>
A2 R [] [some (AV.sc (.float .f64 q))]) else (
Bd pg KK.gl [] 89 [AV.sc (.float .f64 4614256656552045848),AV.sc (.float .f64 a)] fun r=>
Gv r fun s=>
A2 R [] [some (AV.sc (.float .f64 s))])) else (
Bd pg KK.gl [] 89 [AV.sc (.float .f64 4614256656552045848),AV.sc (.float .f64 a)] fun t=>
Gv t fun u=>
A2 R [] [some (AV.sc (.float .f64 u))])) else (
Xz pg .eql 104 4 b 0 138 fun v=>
bif v then (
Bd pg KK.gl [] 89 [AV.sc (.float .f64 4609753056924675352),AV.sc (.float .f64 a)] fun w=>
Gv w fun x=>
A2 R [] [some (AV.sc (.float .f64 x))]) else (
Bd pg KK.gl [] 85 [AV.sc (.float .f64 b),Aa (0)] fun y=>
Hr y fun z=>
bif z then (
Bd pg KK.gl [] 85 [AV.sc (.float .f64 b),Aa (1)] fun aa=>
Hr aa fun ab=>
bif ab then (
Bd pg KK.gl [] 85 [AV.sc (.float .f64 a),Aa (0)] fun ad=>
Hr ad fun ae=>
bif ae then (
Bd pg KK.gl [] 89 [AV.sc (.float .f64 4605249457297304856),AV.sc (.float .f64 a)] fun af=>
Gv af fun ag=>
A2 R [] [some (AV.sc (.float .f64 ag))]) else (
Bd pg KK.gl [] 89 [AV.sc (.float .f64 0),AV.sc (.float .f64 a)] fun ah=>
Gv ah fun ai=>
A2 R [] [some (AV.sc (.float .f64 ai))])) else (
Bd pg KK.gl [] 85 [AV.sc (.float .f64 a),Aa (0)] fun aj=>
Hr aj fun ak=>
bif ak then (
Bd pg KK.gl [] 89 [AV.sc (.float .f64 4612488097114038738),AV.sc (.float .f64 a)] fun al=>
Gv al fun am=>
A2 R [] [some (AV.sc (.float .f64 am))]) else (
Bd pg KK.gl [] 89 [AV.sc (.float .f64 4614256656552045848),AV.sc (.float .f64 a)] fun an=>
Gv an fun ao=>
A2 R [] [some (AV.sc (.float .f64 ao))]))) else (
Bd pg KK.gl [] 85 [AV.sc (.float .f64 a),Aa (0)] fun ap=>
Hr ap fun aq=>
bif aq then (
Bd pg KK.gl [] 89 [AV.sc (.float .f64 4609753056924675352),AV.sc (.float .f64 a)] fun ar=>
Gv ar fun au=>
A2 R [] [some (AV.sc (.float .f64 au))]) else (
A8 pg .quo 104 a b 274 fun av=>
Bd pg KK.gl [] 90 [AV.sc (.float .f64 av)] fun aw=>
Gv aw fun c=>
Xz pg .lss 104 4 b 0 341 fun ax=>
bif ax then (
Xz pg .leq 104 4 c 0 343 fun ay=>
bif ay then (
A8 pg .add 104 c 4614256656552045848 345 fun az=>
A2 R [] [some (AV.sc (.float .f64 az))]) else (
A8 pg .sub 104 c 4614256656552045848 345 fun ba=>
A2 R [] [some (AV.sc (.float .f64 ba))])) else (
A2 R [] [some (AV.sc (.float .f64 c))])))))))
theorem qN (a b:Nat) (R:AV→Mem→Prop) (h:F75 a b R):Own pg KK.gl 75 [AV.sc (.float .f64 a),AV.sc (.float .f64 b)] R:=Bk Ee Tryz.func75 (code:=c75) Bi Bi Bi (X:=F75 a b R) Bi h
noncomputable def Nw:Code:=((Tryz.f57).body).getD .skip
noncomputable def q57 (R:AV→Mem→Prop):Bh→St→Prop:=C8 pg Tryz.f57 R
noncomputable def F57 (a b:Nat) (R:AV→Mem→Prop):Prop:=
Bd pg KK.gl [] 75 [AV.sc (.float .f64 a),AV.sc (.float .f64 b)] fun c=>
Gv c fun d=>
A2 R [] [some (AV.sc (.float .f64 d))]
theorem uK (a b:Nat) (R:AV→Mem→Prop) (h:F57 a b R):Own pg KK.gl 57 [AV.sc (.float .f64 a),AV.sc (.float .f64 b)] R:=Bk Ee Tryz.func57 (code:=Nw) Bi Bi Bi (X:=F57 a b R) Bi h
noncomputable def Qb:Code:=((Tryz.f56).body).getD .skip
noncomputable def q56 (R:AV→Mem→Prop):Bh→St→Prop:=C8 pg Tryz.f56 R
noncomputable def F56 (a:Nat) (R:AV→Mem→Prop):Prop:=
Bd pg KK.gl [] 72 [AV.sc (.float .f64 a)] fun b=>
Gv b fun c=>
A2 R [] [some (AV.sc (.float .f64 c))]
theorem oX (a:Nat) (R:AV→Mem→Prop) (h:F56 a R):Own pg KK.gl 56 [AV.sc (.float .f64 a)] R:=Bk Ee Tryz.func56 (code:=Qb) Bi Bi Bi (X:=F56 a R) Bi h
noncomputable def c58:Code:=((Tryz.f58).body).getD .skip
noncomputable def q58 (R:AV→Mem→Prop):Bh→St→Prop:=C8 pg Tryz.f58 R
noncomputable def F58 (a:Int) (R:AV→Mem→Prop):Prop:=
Bd pg KK.gl ((0,some ⟨[Aa (0),Aa (0)],42⟩)::[]) 76 [Aa a] fun b=>
Af b fun c=>
Bd pg KK.gl ((0,some ⟨[Aa (0),Aa (0)],42⟩)::[]) 77 [Aa a] fun d=>
Af d fun e=>
Bo (N8 [Aa (0),Aa (0)] [(0,1),(1,1)] [(0,(Aa c)),(1,(Aa e))]) fun f=>
Cw pg (Am ((0,some ⟨[Aa (0),Aa (0)],42⟩)::[])) 42 (AV.ptr 0 0) f fun g d5=>
A2 R (Ag ((0,some ⟨[Aa (0),Aa (0)],42⟩)::[]) d5) [(Fq pg (Am (Ag ((0,some ⟨[Aa (0),Aa (0)],42⟩)::[]) d5)) 42 (AV.ptr 0 0)).map (·.1)]
theorem sY (a:Int) (R:AV→Mem→Prop) (h:F58 a R):Own pg KK.gl 58 [Aa a] R:=Bk Ee Tryz.func58 (code:=c58) Bi Bi Bi (X:=F58 a R) Bi h
noncomputable def c59:Code:=((Tryz.f59).body).getD .skip
noncomputable def q59 (R:AV→Mem→Prop):Bh→St→Prop:=C8 pg Tryz.f59 R
noncomputable def F59 (a b c d:Int) (R:AV→Mem→Prop):Prop:=
A2 R ((1,some ⟨[Aa c,Aa d],42⟩)::(0,some ⟨[Aa a,Aa b],42⟩)::[]) [some (Aa (IntKind.wrap .i64 ((IntKind.wrap .i64 (b*c))-(IntKind.wrap .i64 (a*d)))))]
theorem vG (a b c d:Int) (R:AV→Mem→Prop) (h:F59 a b c d R):Own pg KK.gl 59 [AV.agg [Aa a,Aa b],AV.agg [Aa c,Aa d]] R:=Bk Ee Tryz.func59 (code:=c59) Bi Bi Bi (X:=F59 a b c d R) Bi h
noncomputable def rK:Code:=((Tryz.f41).body).getD .skip
noncomputable def q41 (R:AV→Mem→Prop):Bh→St→Prop:=C8 pg Tryz.f41 R
noncomputable def W9:Code:=Ey rK 0
noncomputable def Yy (R:AV→Mem→Prop):Bh→St→Prop:=Ew pg KK 103 0 rK 0 (q41 R)
noncomputable def Acj (R:AV→Mem→Prop) (N0:St→Prop):Bh→St→Prop:=Ex N0 (Yy R)
def Ur (a b c d e f:Int) (m:Mem):St:=⟨[(1,(AV.ptr 0 0)),(2,(Aa a)),(3,(Aa b)),(4,(Aa c)),(50,(Aa d))],((0,some ⟨[Aa e,Aa f],42⟩)::m),100000⟩
noncomputable def dR (t u d a b c:Int) (m:Mem) (R:AV→Mem→Prop) (N0:St→Prop):Prop:=
bif (decide (a<(4096))) then (
Bd pg KK.gl ((0,some ⟨[Aa b,Aa c],42⟩)::m) 25 [Aa (IntKind.wrap .i64 (d+a))] fun v=>
Af v fun e=>
bif ((Int.tmod a (2))==(1)) then (
Bd pg KK.gl ((0,some ⟨[Aa b,Aa c],42⟩)::m) 25 [Aa (IntKind.wrap .i64 (d-a))] fun w=>
Af w fun j=>
Bd pg KK.gl ((0,some ⟨[Aa b,Aa c],42⟩)::m) 58 [Aa j] fun x=>
I3 x fun vP Uv=>
Af vP fun f=>
Af Uv fun g=>
Bd pg KK.gl ((0,some ⟨[Aa b,Aa c],42⟩)::m) 58 [Aa (IntKind.wrap .i64 (j+(1)))] fun y=>
I3 y fun z Pn=>
Af z fun k=>
Af Pn fun l=>
Bd pg KK.gl ((100274,some ⟨[Aa k,Aa l],42⟩)::(100273,some ⟨[Aa f,Aa g],42⟩)::(100274,some ⟨[Aa (0),Aa (0)],42⟩)::(100273,some ⟨[Aa (0),Aa (0)],42⟩)::(0,some ⟨[Aa b,Aa c],42⟩)::m) 59 [AV.agg [Aa f,Aa g],AV.agg [Aa b,Aa c]] fun aa=>
Af aa fun p=>
Bd pg KK.gl ((100274,some ⟨[Aa k,Aa l],42⟩)::(100273,some ⟨[Aa f,Aa g],42⟩)::(100274,some ⟨[Aa (0),Aa (0)],42⟩)::(100273,some ⟨[Aa (0),Aa (0)],42⟩)::(0,some ⟨[Aa b,Aa c],42⟩)::m) 59 [AV.agg [Aa b,Aa c],AV.agg [Aa k,Aa l]] fun ab=>
Af ab fun q=>
bif (decide (p≥(0))) then (
bif (decide (q>(0))) then (
bif (decide ((IntKind.wrap .i64 ((IntKind.wrap .i64 (f*b))+(IntKind.wrap .i64 (g*c))))>(0))) then (
bif (decide (p≤q)) then (
A2 R ((100274,some ⟨[Aa k,Aa l],42⟩)::(100273,some ⟨[Aa f,Aa g],42⟩)::(100274,some ⟨[Aa (0),Aa (0)],42⟩)::(100273,some ⟨[Aa (0),Aa (0)],42⟩)::(0,some ⟨[Aa b,Aa c],42⟩)::m) [some (Aa j),some (Aa (0))]) else (
Bd pg KK.gl ((100274,some ⟨[Aa k,Aa l],42⟩)::(100273,some ⟨[Aa f,Aa g],42⟩)::(100274,some ⟨[Aa (0),Aa (0)],42⟩)::(100273,some ⟨[Aa (0),Aa (0)],42⟩)::(0,some ⟨[Aa b,Aa c],42⟩)::m) 25 [Aa (IntKind.wrap .i64 (j+(1)))] fun ad=>
Af ad fun ae=>
A2 R ((100274,some ⟨[Aa k,Aa l],42⟩)::(100273,some ⟨[Aa f,Aa g],42⟩)::(100274,some ⟨[Aa (0),Aa (0)],42⟩)::(100273,some ⟨[Aa (0),Aa (0)],42⟩)::(0,some ⟨[Aa b,Aa c],42⟩)::m) [some (Aa ae),some (Aa (0))])) else (
N0 ⟨[(1,(AV.ptr 0 0)),(2,(Aa t)),(3,(Aa u)),(4,(Aa d)),(50,(Aa (IntKind.wrap .i64 (a+(1))))),(51,(Ah (decide (a<(4096))))),(52,(Aa a)),(5,(Aa a)),(53,(Aa d)),(54,(Aa a)),(55,(Aa (IntKind.wrap .i64 (d+a)))),(56,(Aa e)),(6,(Aa j)),(57,(Aa a)),(58,(Aa (Int.tmod a (2)))),(59,(Ah ((Int.tmod a (2))==(1)))),(60,(Aa d)),(61,(Aa a)),(62,(Aa (IntKind.wrap .i64 (d-a)))),(63,(Aa j)),(64,(Aa j)),(65,(AV.agg [Aa f,Aa g])),(66,(Aa j)),(67,(Aa (IntKind.wrap .i64 (j+(1))))),(68,(AV.agg [Aa k,Aa l])),(7,(AV.ptr 100273 0)),(8,(AV.ptr 100274 0)),(69,(AV.agg [Aa f,Aa g])),(70,(AV.agg [Aa b,Aa c])),(71,(Aa p)),(72,(AV.agg [Aa b,Aa c])),(73,(AV.agg [Aa k,Aa l])),(74,(Aa q)),(9,(Aa p)),(10,(Aa q)),(75,(Aa p)),(76,(Ah (decide (p≥(0))))),(77,(Ah true)),(78,(Aa q)),(79,(Ah (decide (q>(0))))),(80,(Ah (decide (q>(0))))),(81,(Ah true)),(82,(AV.ptr 100273 0)),(83,(Aa f)),(84,(AV.ptr 0 0)),(85,(Aa b)),(86,(Aa (IntKind.wrap .i64 (f*b)))),(87,(AV.ptr 100273 1)),(88,(Aa g)),(89,(AV.ptr 0 1)),(90,(Aa c)),(91,(Aa (IntKind.wrap .i64 (g*c)))),(92,(Aa (IntKind.wrap .i64 ((IntKind.wrap .i64 (f*b))+(IntKind.wrap .i64 (g*c)))))),(93,(Ah (decide ((IntKind.wrap .i64 ((IntKind.wrap .i64 (f*b))+(IntKind.wrap .i64 (g*c))))>(0))))),(94,(Ah (decide ((IntKind.wrap .i64 ((IntKind.wrap .i64 (f*b))+(IntKind.wrap .i64 (g*c))))>(0))))),(102,(Aa (IntKind.wrap .i64 (a+(1)))))],((100274,some ⟨[Aa k,Aa l],42⟩)::(100273,some ⟨[Aa f,Aa g],42⟩)::(100274,some ⟨[Aa (0),Aa (0)],42⟩)::(100273,some ⟨[Aa (0),Aa (0)],42⟩)::(0,some ⟨[Aa b,Aa c],42⟩)::m),100307⟩)) else (
N0 ⟨[(1,(AV.ptr 0 0)),(2,(Aa t)),(3,(Aa u)),(4,(Aa d)),(50,(Aa (IntKind.wrap .i64 (a+(1))))),(51,(Ah (decide (a<(4096))))),(52,(Aa a)),(5,(Aa a)),(53,(Aa d)),(54,(Aa a)),(55,(Aa (IntKind.wrap .i64 (d+a)))),(56,(Aa e)),(6,(Aa j)),(57,(Aa a)),(58,(Aa (Int.tmod a (2)))),(59,(Ah ((Int.tmod a (2))==(1)))),(60,(Aa d)),(61,(Aa a)),(62,(Aa (IntKind.wrap .i64 (d-a)))),(63,(Aa j)),(64,(Aa j)),(65,(AV.agg [Aa f,Aa g])),(66,(Aa j)),(67,(Aa (IntKind.wrap .i64 (j+(1))))),(68,(AV.agg [Aa k,Aa l])),(7,(AV.ptr 100273 0)),(8,(AV.ptr 100274 0)),(69,(AV.agg [Aa f,Aa g])),(70,(AV.agg [Aa b,Aa c])),(71,(Aa p)),(72,(AV.agg [Aa b,Aa c])),(73,(AV.agg [Aa k,Aa l])),(74,(Aa q)),(9,(Aa p)),(10,(Aa q)),(75,(Aa p)),(76,(Ah (decide (p≥(0))))),(77,(Ah true)),(78,(Aa q)),(79,(Ah (decide (q>(0))))),(80,(Ah (decide (q>(0))))),(81,(Ah false)),(82,(AV.B4 [])),(83,(AV.B4 [])),(84,(AV.B4 [])),(85,(AV.B4 [])),(86,(AV.B4 [])),(87,(AV.B4 [])),(88,(AV.B4 [])),(89,(AV.B4 [])),(90,(AV.B4 [])),(91,(AV.B4 [])),(92,(AV.B4 [])),(93,(AV.B4 [])),(94,(Ah false)),(102,(Aa (IntKind.wrap .i64 (a+(1)))))],((100274,some ⟨[Aa k,Aa l],42⟩)::(100273,some ⟨[Aa f,Aa g],42⟩)::(100274,some ⟨[Aa (0),Aa (0)],42⟩)::(100273,some ⟨[Aa (0),Aa (0)],42⟩)::(0,some ⟨[Aa b,Aa c],42⟩)::m),100295⟩)) else (
N0 ⟨[(1,(AV.ptr 0 0)),(2,(Aa t)),(3,(Aa u)),(4,(Aa d)),(50,(Aa (IntKind.wrap .i64 (a+(1))))),(51,(Ah (decide (a<(4096))))),(52,(Aa a)),(5,(Aa a)),(53,(Aa d)),(54,(Aa a)),(55,(Aa (IntKind.wrap .i64 (d+a)))),(56,(Aa e)),(6,(Aa j)),(57,(Aa a)),(58,(Aa (Int.tmod a (2)))),(59,(Ah ((Int.tmod a (2))==(1)))),(60,(Aa d)),(61,(Aa a)),(62,(Aa (IntKind.wrap .i64 (d-a)))),(63,(Aa j)),(64,(Aa j)),(65,(AV.agg [Aa f,Aa g])),(66,(Aa j)),(67,(Aa (IntKind.wrap .i64 (j+(1))))),(68,(AV.agg [Aa k,Aa l])),(7,(AV.ptr 100273 0)),(8,(AV.ptr 100274 0)),(69,(AV.agg [Aa f,Aa g])),(70,(AV.agg [Aa b,Aa c])),(71,(Aa p)),(72,(AV.agg [Aa b,Aa c])),(73,(AV.agg [Aa k,Aa l])),(74,(Aa q)),(9,(Aa p)),(10,(Aa q)),(75,(Aa p)),(76,(Ah (decide (p≥(0))))),(77,(Ah false)),(78,(AV.B4 [])),(79,(AV.B4 [])),(80,(Ah false)),(81,(Ah false)),(82,(AV.B4 [])),(83,(AV.B4 [])),(84,(AV.B4 [])),(85,(AV.B4 [])),(86,(AV.B4 [])),(87,(AV.B4 [])),(88,(AV.B4 [])),(89,(AV.B4 [])),(90,(AV.B4 [])),(91,(AV.B4 [])),(92,(AV.B4 [])),(93,(AV.B4 [])),(94,(Ah false)),(102,(Aa (IntKind.wrap .i64 (a+(1)))))],((100274,some ⟨[Aa k,Aa l],42⟩)::(100273,some ⟨[Aa f,Aa g],42⟩)::(100274,some ⟨[Aa (0),Aa (0)],42⟩)::(100273,some ⟨[Aa (0),Aa (0)],42⟩)::(0,some ⟨[Aa b,Aa c],42⟩)::m),100293⟩)) else (
Bd pg KK.gl ((0,some ⟨[Aa b,Aa c],42⟩)::m) 58 [Aa e] fun af=>
I3 af fun tP c36=>
Af tP fun h=>
Af c36 fun i=>
Bd pg KK.gl ((0,some ⟨[Aa b,Aa c],42⟩)::m) 58 [Aa (IntKind.wrap .i64 (e+(1)))] fun ag=>
I3 ag fun zE rK=>
Af zE fun n=>
Af rK fun o=>
Bd pg KK.gl ((100206,some ⟨[Aa n,Aa o],42⟩)::(100205,some ⟨[Aa h,Aa i],42⟩)::(100206,some ⟨[Aa (0),Aa (0)],42⟩)::(100205,some ⟨[Aa (0),Aa (0)],42⟩)::(0,some ⟨[Aa b,Aa c],42⟩)::m) 59 [AV.agg [Aa h,Aa i],AV.agg [Aa b,Aa c]] fun ah=>
Af ah fun r=>
Bd pg KK.gl ((100206,some ⟨[Aa n,Aa o],42⟩)::(100205,some ⟨[Aa h,Aa i],42⟩)::(100206,some ⟨[Aa (0),Aa (0)],42⟩)::(100205,some ⟨[Aa (0),Aa (0)],42⟩)::(0,some ⟨[Aa b,Aa c],42⟩)::m) 59 [AV.agg [Aa b,Aa c],AV.agg [Aa n,Aa o]] fun ai=>
Af ai fun s=>
bif (decide (r≥(0))) then (
bif (decide (s>(0))) then (
bif (decide ((IntKind.wrap .i64 ((IntKind.wrap .i64 (h*b))+(IntKind.wrap .i64 (i*c))))>(0))) then (
bif (decide (r≤s)) then (
A2 R ((100206,some ⟨[Aa n,Aa o],42⟩)::(100205,some ⟨[Aa h,Aa i],42⟩)::(100206,some ⟨[Aa (0),Aa (0)],42⟩)::(100205,some ⟨[Aa (0),Aa (0)],42⟩)::(0,some ⟨[Aa b,Aa c],42⟩)::m) [some (Aa e),some (Aa (0))]) else (
Bd pg KK.gl ((100206,some ⟨[Aa n,Aa o],42⟩)::(100205,some ⟨[Aa h,Aa i],42⟩)::(100206,some ⟨[Aa (0),Aa (0)],42⟩)::(100205,some ⟨[Aa (0),Aa (0)],42⟩)::(0,some ⟨[Aa b,Aa c],42⟩)::m) 25 [Aa (IntKind.wrap .i64 (e+(1)))] fun aj=>
Af aj fun ak=>
A2 R ((100206,some ⟨[Aa n,Aa o],42⟩)::(100205,some ⟨[Aa h,Aa i],42⟩)::(100206,some ⟨[Aa (0),Aa (0)],42⟩)::(100205,some ⟨[Aa (0),Aa (0)],42⟩)::(0,some ⟨[Aa b,Aa c],42⟩)::m) [some (Aa ak),some (Aa (0))])) else (
N0 ⟨[(1,(AV.ptr 0 0)),(2,(Aa t)),(3,(Aa u)),(4,(Aa d)),(50,(Aa (IntKind.wrap .i64 (a+(1))))),(51,(Ah (decide (a<(4096))))),(52,(Aa a)),(5,(Aa a)),(53,(Aa d)),(54,(Aa a)),(55,(Aa (IntKind.wrap .i64 (d+a)))),(56,(Aa e)),(6,(Aa e)),(57,(Aa a)),(58,(Aa (Int.tmod a (2)))),(59,(Ah ((Int.tmod a (2))==(1)))),(64,(Aa e)),(65,(AV.agg [Aa h,Aa i])),(66,(Aa e)),(67,(Aa (IntKind.wrap .i64 (e+(1))))),(68,(AV.agg [Aa n,Aa o])),(7,(AV.ptr 100205 0)),(8,(AV.ptr 100206 0)),(69,(AV.agg [Aa h,Aa i])),(70,(AV.agg [Aa b,Aa c])),(71,(Aa r)),(72,(AV.agg [Aa b,Aa c])),(73,(AV.agg [Aa n,Aa o])),(74,(Aa s)),(9,(Aa r)),(10,(Aa s)),(75,(Aa r)),(76,(Ah (decide (r≥(0))))),(77,(Ah true)),(78,(Aa s)),(79,(Ah (decide (s>(0))))),(80,(Ah (decide (s>(0))))),(81,(Ah true)),(82,(AV.ptr 100205 0)),(83,(Aa h)),(84,(AV.ptr 0 0)),(85,(Aa b)),(86,(Aa (IntKind.wrap .i64 (h*b)))),(87,(AV.ptr 100205 1)),(88,(Aa i)),(89,(AV.ptr 0 1)),(90,(Aa c)),(91,(Aa (IntKind.wrap .i64 (i*c)))),(92,(Aa (IntKind.wrap .i64 ((IntKind.wrap .i64 (h*b))+(IntKind.wrap .i64 (i*c)))))),(93,(Ah (decide ((IntKind.wrap .i64 ((IntKind.wrap .i64 (h*b))+(IntKind.wrap .i64 (i*c))))>(0))))),(94,(Ah (decide ((IntKind.wrap .i64 ((IntKind.wrap .i64 (h*b))+(IntKind.wrap .i64 (i*c))))>(0))))),(102,(Aa (IntKind.wrap .i64 (a+(1)))))],((100206,some ⟨[Aa n,Aa o],42⟩)::(100205,some ⟨[Aa h,Aa i],42⟩)::(100206,some ⟨[Aa (0),Aa (0)],42⟩)::(100205,some ⟨[Aa (0),Aa (0)],42⟩)::(0,some ⟨[Aa b,Aa c],42⟩)::m),100239⟩)) else (
N0 ⟨[(1,(AV.ptr 0 0)),(2,(Aa t)),(3,(Aa u)),(4,(Aa d)),(50,(Aa (IntKind.wrap .i64 (a+(1))))),(51,(Ah (decide (a<(4096))))),(52,(Aa a)),(5,(Aa a)),(53,(Aa d)),(54,(Aa a)),(55,(Aa (IntKind.wrap .i64 (d+a)))),(56,(Aa e)),(6,(Aa e)),(57,(Aa a)),(58,(Aa (Int.tmod a (2)))),(59,(Ah ((Int.tmod a (2))==(1)))),(64,(Aa e)),(65,(AV.agg [Aa h,Aa i])),(66,(Aa e)),(67,(Aa (IntKind.wrap .i64 (e+(1))))),(68,(AV.agg [Aa n,Aa o])),(7,(AV.ptr 100205 0)),(8,(AV.ptr 100206 0)),(69,(AV.agg [Aa h,Aa i])),(70,(AV.agg [Aa b,Aa c])),(71,(Aa r)),(72,(AV.agg [Aa b,Aa c])),(73,(AV.agg [Aa n,Aa o])),(74,(Aa s)),(9,(Aa r)),(10,(Aa s)),(75,(Aa r)),(76,(Ah (decide (r≥(0))))),(77,(Ah true)),(78,(Aa s)),(79,(Ah (decide (s>(0))))),(80,(Ah (decide (s>(0))))),(81,(Ah false)),(82,(AV.B4 [])),(83,(AV.B4 [])),(84,(AV.B4 [])),(85,(AV.B4 [])),(86,(AV.B4 [])),(87,(AV.B4 [])),(88,(AV.B4 [])),(89,(AV.B4 [])),(90,(AV.B4 [])),(91,(AV.B4 [])),(92,(AV.B4 [])),(93,(AV.B4 [])),(94,(Ah false)),(102,(Aa (IntKind.wrap .i64 (a+(1)))))],((100206,some ⟨[Aa n,Aa o],42⟩)::(100205,some ⟨[Aa h,Aa i],42⟩)::(100206,some ⟨[Aa (0),Aa (0)],42⟩)::(100205,some ⟨[Aa (0),Aa (0)],42⟩)::(0,some ⟨[Aa b,Aa c],42⟩)::m),100227⟩)) else (
N0 ⟨[(1,(AV.ptr 0 0)),(2,(Aa t)),(3,(Aa u)),(4,(Aa d)),(50,(Aa (IntKind.wrap .i64 (a+(1))))),(51,(Ah (decide (a<(4096))))),(52,(Aa a)),(5,(Aa a)),(53,(Aa d)),(54,(Aa a)),(55,(Aa (IntKind.wrap .i64 (d+a)))),(56,(Aa e)),(6,(Aa e)),(57,(Aa a)),(58,(Aa (Int.tmod a (2)))),(59,(Ah ((Int.tmod a (2))==(1)))),(64,(Aa e)),(65,(AV.agg [Aa h,Aa i])),(66,(Aa e)),(67,(Aa (IntKind.wrap .i64 (e+(1))))),(68,(AV.agg [Aa n,Aa o])),(7,(AV.ptr 100205 0)),(8,(AV.ptr 100206 0)),(69,(AV.agg [Aa h,Aa i])),(70,(AV.agg [Aa b,Aa c])),(71,(Aa r)),(72,(AV.agg [Aa b,Aa c])),(73,(AV.agg [Aa n,Aa o])),(74,(Aa s)),(9,(Aa r)),(10,(Aa s)),(75,(Aa r)),(76,(Ah (decide (r≥(0))))),(77,(Ah false)),(78,(AV.B4 [])),(79,(AV.B4 [])),(80,(Ah false)),(81,(Ah false)),(82,(AV.B4 [])),(83,(AV.B4 [])),(84,(AV.B4 [])),(85,(AV.B4 [])),(86,(AV.B4 [])),(87,(AV.B4 [])),(88,(AV.B4 [])),(89,(AV.B4 [])),(90,(AV.B4 [])),(91,(AV.B4 [])),(92,(AV.B4 [])),(93,(AV.B4 [])),(94,(Ah false)),(102,(Aa (IntKind.wrap .i64 (a+(1)))))],((100206,some ⟨[Aa n,Aa o],42⟩)::(100205,some ⟨[Aa h,Aa i],42⟩)::(100206,some ⟨[Aa (0),Aa (0)],42⟩)::(100205,some ⟨[Aa (0),Aa (0)],42⟩)::(0,some ⟨[Aa b,Aa c],42⟩)::m),100225⟩))) else (
A2 R ((0,some ⟨[Aa b,Aa c],42⟩)::m) [some (Aa (0)),some (Aa (0))])
theorem jH (a b c d e f:Int) (m:Mem) (R:AV→Mem→Prop) (N0:St→Prop):W pg KK 103 0 W9 (Ur a b c d e f m) (Acj R N0)=dR a b c d e f m R N0:=by kernel_rfl
theorem Aea (R:AV→Mem→Prop) {σ:Type} (I:σ→Prop) (a b c d e f:σ→Int) (m:σ→Mem) (μ:σ→Nat) (step:∀x,I x→dR (a x) (b x) (c x) (d x) (e x) (f x) (m x) R (fun s'=>∃y,I y∧μ y<μ x∧Cl KK 103 0 s' (Ur (a y) (b y) (c y) (d y) (e y) (f y) (m y)))) (x:σ) (hx:I x) {s:St} (hw:Cl KK 103 0 s (Ur (a x) (b x) (c x) (d x) (e x) (f x) (m x))):C6 pg KK 103 0 (.loop W9) s (Yy R):=
 C6.He hw (C6.loops Ee I (fun x=>Ur (a x) (b x) (c x) (d x) (e x) (f x) (m x)) μ (fun x hx=>(jH (a x) (b x) (c x) (d x) (e x) (f x) (m x) R _).mpr (step x hx)) x hx)
noncomputable def F41 (b a:Int) (R:AV→Mem→Prop):Prop:=
bif (decide (b<(-2000000))) then (
A2 R ((0,some ⟨[Aa b,Aa a],42⟩)::[]) [some (Aa (0)),some (Aa (4))]) else (
bif (decide (b>(2000000))) then (
A2 R ((0,some ⟨[Aa b,Aa a],42⟩)::[]) [some (Aa (0)),some (Aa (4))]) else (
bif (decide (a<(-2000000))) then (
A2 R ((0,some ⟨[Aa b,Aa a],42⟩)::[]) [some (Aa (0)),some (Aa (4))]) else (
bif (decide (a>(2000000))) then (
A2 R ((0,some ⟨[Aa b,Aa a],42⟩)::[]) [some (Aa (0)),some (Aa (4))]) else (
bif (b==(0)) then (
bif (a==(0)) then (
A2 R ((0,some ⟨[Aa b,Aa a],42⟩)::[]) [some (Aa (0)),some (Aa (10))]) else (
Bo (Cs pg (.convert 3 104 (.tmp 0)) 104 [Aa b] (Am ((0,some ⟨[Aa b,Aa a],42⟩)::[])) 33) fun q=>
Gv q fun c=>
Bo (Cs pg (.convert 3 104 (.tmp 0)) 104 [Aa a] (Am ((0,some ⟨[Aa b,Aa a],42⟩)::[])) 36) fun r=>
Gv r fun d=>
Bd pg KK.gl ((0,some ⟨[Aa b,Aa a],42⟩)::[]) 57 [AV.sc (.float .f64 c),AV.sc (.float .f64 d)] fun s=>
Gv s fun e=>
Bo (Cs pg (.binOp .mul 104 (.tmp 0) (.tmp 1) 104) 104 [AV.sc (.float .f64 e),AV.sc (.float .f64 4656722014701092864)] (Am ((0,some ⟨[Aa b,Aa a],42⟩)::[])) 101) fun t=>
Gv t fun f=>
Bo (Cs pg (.binOp .quo 104 (.tmp 0) (.tmp 1) 104) 104 [AV.sc (.float .f64 f),AV.sc (.float .f64 4614256656552045848)] (Am ((0,some ⟨[Aa b,Aa a],42⟩)::[])) 102) fun u=>
Gv u fun g=>
Bd pg KK.gl ((0,some ⟨[Aa b,Aa a],42⟩)::[]) 56 [AV.sc (.float .f64 g)] fun v=>
Gv v fun h=>
Bo (Cs pg (.convert 104 3 (.tmp 0)) 3 [AV.sc (.float .f64 h)] (Am ((0,some ⟨[Aa b,Aa a],42⟩)::[])) 167) fun w=>
Af w fun i=>
C6 pg KK 103 0 (.loop W9) ⟨[(0,(AV.agg [Aa b,Aa a])),(1,(AV.ptr 0 0)),(2,(Aa (0))),(3,(Aa (0))),(12,(AV.ptr 0 0)),(13,(Aa b)),(14,(Ah (decide (b<(-2000000))))),(15,(Ah false)),(16,(AV.ptr 0 0)),(17,(Aa b)),(18,(Ah (decide (b>(2000000))))),(19,(Ah (decide (b>(2000000))))),(20,(Ah false)),(21,(AV.ptr 0 1)),(22,(Aa a)),(23,(Ah (decide (a<(-2000000))))),(24,(Ah (decide (a<(-2000000))))),(25,(Ah false)),(26,(AV.ptr 0 1)),(27,(Aa a)),(28,(Ah (decide (a>(2000000))))),(29,(Ah (decide (a>(2000000))))),(11,(Ah (decide (a>(2000000))))),(31,(AV.ptr 0 0)),(32,(Aa b)),(33,(Ah (b==(0)))),(34,(Ah true)),(35,(AV.ptr 0 1)),(36,(Aa a)),(37,(Ah (a==(0)))),(38,(Ah (a==(0)))),(30,(Ah (a==(0)))),(39,(AV.ptr 0 0)),(40,(Aa b)),(41,(AV.sc (.float .f64 c))),(42,(AV.ptr 0 1)),(43,(Aa a)),(44,(AV.sc (.float .f64 d))),(45,(AV.sc (.float .f64 e))),(46,(AV.sc (.float .f64 f))),(47,(AV.sc (.float .f64 g))),(48,(AV.sc (.float .f64 h))),(49,(Aa i)),(4,(Aa i)),(50,(Aa (0)))],((0,some ⟨[Aa b,Aa a],42⟩)::[]),170⟩ (Yy R))) else (
Bo (Cs pg (.convert 3 104 (.tmp 0)) 104 [Aa b] (Am ((0,some ⟨[Aa b,Aa a],42⟩)::[])) 30) fun x=>
Gv x fun j=>
Bo (Cs pg (.convert 3 104 (.tmp 0)) 104 [Aa a] (Am ((0,some ⟨[Aa b,Aa a],42⟩)::[])) 33) fun y=>
Gv y fun k=>
Bd pg KK.gl ((0,some ⟨[Aa b,Aa a],42⟩)::[]) 57 [AV.sc (.float .f64 j),AV.sc (.float .f64 k)] fun z=>
Gv z fun l=>
Bo (Cs pg (.binOp .mul 104 (.tmp 0) (.tmp 1) 104) 104 [AV.sc (.float .f64 l),AV.sc (.float .f64 4656722014701092864)] (Am ((0,some ⟨[Aa b,Aa a],42⟩)::[])) 98) fun aa=>
Gv aa fun m=>
Bo (Cs pg (.binOp .quo 104 (.tmp 0) (.tmp 1) 104) 104 [AV.sc (.float .f64 m),AV.sc (.float .f64 4614256656552045848)] (Am ((0,some ⟨[Aa b,Aa a],42⟩)::[])) 99) fun ab=>
Gv ab fun n=>
Bd pg KK.gl ((0,some ⟨[Aa b,Aa a],42⟩)::[]) 56 [AV.sc (.float .f64 n)] fun ad=>
Gv ad fun o=>
Bo (Cs pg (.convert 104 3 (.tmp 0)) 3 [AV.sc (.float .f64 o)] (Am ((0,some ⟨[Aa b,Aa a],42⟩)::[])) 164) fun ae=>
Af ae fun p=>
C6 pg KK 103 0 (.loop W9) ⟨[(0,(AV.agg [Aa b,Aa a])),(1,(AV.ptr 0 0)),(2,(Aa (0))),(3,(Aa (0))),(12,(AV.ptr 0 0)),(13,(Aa b)),(14,(Ah (decide (b<(-2000000))))),(15,(Ah false)),(16,(AV.ptr 0 0)),(17,(Aa b)),(18,(Ah (decide (b>(2000000))))),(19,(Ah (decide (b>(2000000))))),(20,(Ah false)),(21,(AV.ptr 0 1)),(22,(Aa a)),(23,(Ah (decide (a<(-2000000))))),(24,(Ah (decide (a<(-2000000))))),(25,(Ah false)),(26,(AV.ptr 0 1)),(27,(Aa a)),(28,(Ah (decide (a>(2000000))))),(29,(Ah (decide (a>(2000000))))),(11,(Ah (decide (a>(2000000))))),(31,(AV.ptr 0 0)),(32,(Aa b)),(33,(Ah (b==(0)))),(34,(Ah false)),(35,(AV.B4 [])),(36,(AV.B4 [])),(37,(AV.B4 [])),(38,(Ah false)),(30,(Ah false)),(39,(AV.ptr 0 0)),(40,(Aa b)),(41,(AV.sc (.float .f64 j))),(42,(AV.ptr 0 1)),(43,(Aa a)),(44,(AV.sc (.float .f64 k))),(45,(AV.sc (.float .f64 l))),(46,(AV.sc (.float .f64 m))),(47,(AV.sc (.float .f64 n))),(48,(AV.sc (.float .f64 o))),(49,(Aa p)),(4,(Aa p)),(50,(Aa (0)))],((0,some ⟨[Aa b,Aa a],42⟩)::[]),167⟩ (Yy R))))))
theorem u7 (a b:Int) (R:AV→Mem→Prop) (h:F41 a b R):Own pg KK.gl 41 [AV.agg [Aa a,Aa b]] R:=Bk Ee Tryz.func41 (code:=rK) Bi Bi Bi (X:=F41 a b R) Bi h
noncomputable def c66:Code:=((Tryz.f66).body).getD .skip
noncomputable def q66 (R:AV→Mem→Prop):Bh→St→Prop:=C8 pg Tryz.f66 R
noncomputable def F66 (b a:Int) (R:AV→Mem→Prop):Prop:=
bif (decide (a<(0))) then (
Bo (N8 [Aa (0),Aa (0)] [(0,1),(1,1)] []) fun c=>
Cw pg (Am ((0,some ⟨[Aa (0),Aa (0)],42⟩)::[])) 42 (AV.ptr 0 0) c fun n d1=>
A2 R (Ag ((0,some ⟨[Aa (0),Aa (0)],42⟩)::[]) d1) [(Fq pg (Am (Ag ((0,some ⟨[Aa (0),Aa (0)],42⟩)::[]) d1)) 42 (AV.ptr 0 0)).map (·.1),some (Aa (4))]) else (
bif (decide (a>(2000000))) then (
Bo (N8 [Aa (0),Aa (0)] [(0,1),(1,1)] []) fun d=>
Cw pg (Am ((0,some ⟨[Aa (0),Aa (0)],42⟩)::[])) 42 (AV.ptr 0 0) d fun o d3=>
A2 R (Ag ((0,some ⟨[Aa (0),Aa (0)],42⟩)::[]) d3) [(Fq pg (Am (Ag ((0,some ⟨[Aa (0),Aa (0)],42⟩)::[]) d3)) 42 (AV.ptr 0 0)).map (·.1),some (Aa (4))]) else (
Bd pg KK.gl ((0,some ⟨[Aa (0),Aa (0)],42⟩)::[]) 76 [Aa b] fun e=>
Af e fun f=>
Bd pg KK.gl ((0,some ⟨[Aa (0),Aa (0)],42⟩)::[]) 81 [Aa (IntKind.wrap .i64 (a*f)),Aa (16384)] fun g=>
Af g fun h=>
Bd pg KK.gl ((0,some ⟨[Aa (0),Aa (0)],42⟩)::[]) 77 [Aa b] fun i=>
Af i fun j=>
Bd pg KK.gl ((0,some ⟨[Aa (0),Aa (0)],42⟩)::[]) 81 [Aa (IntKind.wrap .i64 (a*j)),Aa (16384)] fun k=>
Af k fun l=>
Bo (N8 [Aa (0),Aa (0)] [(0,1),(1,1)] [(0,(Aa h)),(1,(Aa l))]) fun m=>
Cw pg (Am ((0,some ⟨[Aa (0),Aa (0)],42⟩)::[])) 42 (AV.ptr 0 0) m fun p d13=>
A2 R (Ag ((0,some ⟨[Aa (0),Aa (0)],42⟩)::[]) d13) [(Fq pg (Am (Ag ((0,some ⟨[Aa (0),Aa (0)],42⟩)::[]) d13)) 42 (AV.ptr 0 0)).map (·.1),some (Aa (0))]))
theorem pO (a b:Int) (R:AV→Mem→Prop) (h:F66 a b R):Own pg KK.gl 66 [Aa a,Aa b] R:=Bk Ee Tryz.func66 (code:=c66) Bi Bi Bi (X:=F66 a b R) Bi h
noncomputable def c5:Code:=((Tryz.f5).body).getD .skip
noncomputable def q5 (R:AV→Mem→Prop):Bh→St→Prop:=C8 pg Tryz.f5 R
noncomputable def pL:Code:=Ey c5 0
noncomputable def tO (R:AV→Mem→Prop):Bh→St→Prop:=Ew pg KK 41 0 c5 0 (q5 R)
noncomputable def Ad0 (R:AV→Mem→Prop) (N0:St→Prop):Bh→St→Prop:=Ex N0 (tO R)
def fP (a:Int) (b:Bool) (c:AV) (d e:Int) (m:Mem):St:=⟨[(2,(Aa a)),(6,(Ah b)),(13,c),(14,(Aa d)),(15,(Aa e))],m,100000⟩
noncomputable def o6 (b:Int) (r:Bool) (i:AV) (f c:Int) (m:Mem) (R:AV→Mem→Prop) (N0:St→Prop):Prop:=
bif (decide (c<f)) then (
Bo (Eb 1 i (Aa c)) fun j=>
Bo (Fm (Am m) j) fun a=>
Bd pg KK.gl m 17 [a] fun s=>
Af s fun g=>
bif (g !=(0)) then (
A2 R m [some (Ah false)]) else (
Bo (Ed a) fun t=>
Af t fun h=>
Bo (Eb 6 a (Aa (IntKind.wrap .i64 (h-(1))))) fun k=>
Bo (E1 0 k) fun l=>
Bo (E1 0 l) fun n=>
Bo (Fm (Am m) n) fun u=>
Af u fun d=>
Bo (Eb 6 a (Aa (0))) fun o=>
Bo (E1 0 o) fun p=>
Bo (E1 0 p) fun q=>
Bo (Fm (Am m) q) fun v=>
Af v fun e=>
bif (decide ((IntKind.wrap .i64 (d-e))>b)) then (
A2 R m [some (Ah false)]) else (
N0 ⟨[(2,(Aa b)),(6,(Ah r)),(13,i),(14,(Aa f)),(15,(Aa (IntKind.wrap .i64 (c+(1))))),(16,(Ah (decide (c<f)))),(17,j),(18,a),(8,a),(19,a),(20,(Aa g)),(21,(Ah (g !=(0)))),(22,(Ah false)),(23,a),(24,a),(25,(Aa h)),(26,(Aa (IntKind.wrap .i64 (h-(1))))),(27,k),(28,l),(29,n),(30,(Aa d)),(31,a),(32,o),(33,p),(34,q),(35,(Aa e)),(36,(Aa (IntKind.wrap .i64 (d-e)))),(37,(Aa b)),(38,(Ah (decide ((IntKind.wrap .i64 (d-e))>b)))),(39,(Ah (decide ((IntKind.wrap .i64 (d-e))>b)))),(40,(Aa (IntKind.wrap .i64 (c+(1)))))],m,100027⟩))) else (
A2 R m [some (Ah true)])
theorem sO (a:Int) (b:Bool) (c:AV) (d e:Int) (m:Mem) (R:AV→Mem→Prop) (N0:St→Prop):W pg KK 41 0 pL (fP a b c d e m) (Ad0 R N0)=o6 a b c d e m R N0:=by kernel_rfl
theorem Afp (R:AV→Mem→Prop) {σ:Type} (I:σ→Prop) (a:σ→Int) (b:σ→Bool) (c:σ→AV) (d e:σ→Int) (m:σ→Mem) (μ:σ→Nat) (step:∀x,I x→o6 (a x) (b x) (c x) (d x) (e x) (m x) R (fun s'=>∃y,I y∧μ y<μ x∧Cl KK 41 0 s' (fP (a y) (b y) (c y) (d y) (e y) (m y)))) (x:σ) (hx:I x) {s:St} (hw:Cl KK 41 0 s (fP (a x) (b x) (c x) (d x) (e x) (m x))):C6 pg KK 41 0 (.loop pL) s (tO R):=
 C6.He hw (C6.loops Ee I (fun x=>fP (a x) (b x) (c x) (d x) (e x) (m x)) μ (fun x hx=>(sO (a x) (b x) (c x) (d x) (e x) (m x) R _).mpr (step x hx)) x hx)
noncomputable def F5 (a:AV) (b d:Int) (R:AV→Mem→Prop):Prop:=
Bo (Ed a) fun e=>
Af e fun c=>
bif (decide (c>b)) then (
A2 R [] [some (Ah false)]) else (
Bo (Ed a) fun f=>
Af f fun g=>
C6 pg KK 41 0 (.loop pL) ⟨[(0,a),(1,(Aa b)),(2,(Aa d)),(6,(Ah false)),(9,a),(10,(Aa c)),(11,(Aa b)),(12,(Ah (decide (c>b)))),(13,a),(14,(Aa g)),(15,(Aa (0)))],[],8⟩ (tO R))
theorem z8 (a:AV) (b c:Int) (R:AV→Mem→Prop) (h:F5 a b c R):Own pg KK.gl 5 [a,Aa b,Aa c] R:=Bk Ee Tryz.func5 (code:=c5) Bi Bi Bi (X:=F5 a b c R) Bi h
noncomputable def oY:Code:=((Tryz.f18).body).getD .skip
noncomputable def q18 (R:AV→Mem→Prop):Bh→St→Prop:=C8 pg Tryz.f18 R
noncomputable def eE:Code:=Ey oY 0
noncomputable def bR (R:AV→Mem→Prop):Bh→St→Prop:=Ew pg KK 39 0 oY 0 (q18 R)
noncomputable def zS (R:AV→Mem→Prop) (N0:St→Prop):Bh→St→Prop:=Ex N0 (bR R)
def T0 (a:AV) (b c:Int) (d:AV) (e f:Int) (m:Mem):St:=⟨[(0,a),(1,(Aa b)),(6,(Aa c)),(19,d),(20,(Aa e)),(21,(Aa f))],m,100000⟩
noncomputable def eL (f:AV) (d i:Int) (g:AV) (e b:Int) (m:Mem) (R:AV→Mem→Prop) (N0:St→Prop):Prop:=
bif (decide (b<e)) then (
Bo (Eb 1 g (Aa b)) fun h=>
Bo (Fm (Am m) h) fun c=>
Bd pg KK.gl m 17 [c] fun j=>
Af j fun a=>
bif (a !=(0)) then (
A2 R m [some (Aa a)]) else (
N0 ⟨[(0,f),(1,(Aa d)),(6,(Aa i)),(19,g),(20,(Aa e)),(21,(Aa (IntKind.wrap .i64 (b+(1))))),(22,(Ah (decide (b<e)))),(23,h),(24,c),(9,c),(25,c),(26,(Aa a)),(10,(Aa a)),(27,(Aa a)),(28,(Ah (a !=(0)))),(30,(Aa (IntKind.wrap .i64 (b+(1)))))],m,100074⟩)) else (
bif (decide (d<(0))) then (
A2 R m [some (Aa (4))]) else (
Bo (Ed f) fun k=>
Af k fun l=>
bif (decide (d≥l)) then (
A2 R m [some (Aa (4))]) else (
A2 R m [some (Aa (0))])))
theorem nC (a:AV) (b c:Int) (d:AV) (e f:Int) (m:Mem) (R:AV→Mem→Prop) (N0:St→Prop):W pg KK 39 0 eE (T0 a b c d e f m) (zS R N0)=eL a b c d e f m R N0:=by kernel_rfl
theorem Aer (R:AV→Mem→Prop) {σ:Type} (I:σ→Prop) (a:σ→AV) (b c:σ→Int) (d:σ→AV) (e f:σ→Int) (m:σ→Mem) (μ:σ→Nat) (step:∀x,I x→eL (a x) (b x) (c x) (d x) (e x) (f x) (m x) R (fun s'=>∃y,I y∧μ y<μ x∧Cl KK 39 0 s' (T0 (a y) (b y) (c y) (d y) (e y) (f y) (m y)))) (x:σ) (hx:I x) {s:St} (hw:Cl KK 39 0 s (T0 (a x) (b x) (c x) (d x) (e x) (f x) (m x))):C6 pg KK 39 0 (.loop eE) s (bR R):=
 C6.He hw (C6.loops Ee I (fun x=>T0 (a x) (b x) (c x) (d x) (e x) (f x) (m x)) μ (fun x hx=>(nC (a x) (b x) (c x) (d x) (e x) (f x) (m x) R _).mpr (step x hx)) x hx)
noncomputable def F18 (d:AV) (f a b:Int) (R:AV→Mem→Prop):Prop:=
Bd pg KK.gl ((0,some ⟨[Aa a,Aa b],24⟩)::[]) 35 [AV.agg [Aa a,Aa b]] fun g=>
Af g fun c=>
bif (c !=(0)) then (
A2 R ((0,some ⟨[Aa a,Aa b],24⟩)::[]) [some (Aa c)]) else (
Bo (Ed d) fun h=>
Af h fun e=>
bif (decide (e>(24))) then (
A2 R ((0,some ⟨[Aa a,Aa b],24⟩)::[]) [some (Aa (2))]) else (
Bo (Ed d) fun i=>
Af i fun j=>
C6 pg KK 39 0 (.loop eE) ⟨[(0,d),(1,(Aa f)),(2,(AV.agg [Aa a,Aa b])),(5,(AV.ptr 0 0)),(6,(Aa (0))),(11,(AV.agg [Aa a,Aa b])),(12,(Aa c)),(7,(Aa c)),(13,(Aa c)),(14,(Ah (c !=(0)))),(16,d),(17,(Aa e)),(18,(Ah (decide (e>(24))))),(19,d),(20,(Aa j)),(21,(Aa (0)))],((0,some ⟨[Aa a,Aa b],24⟩)::[]),76⟩ (bR R)))
theorem pD (a:AV) (b c d:Int) (R:AV→Mem→Prop) (h:F18 a b c d R):Own pg KK.gl 18 [a,Aa b,AV.agg [Aa c,Aa d]] R:=Bk Ee Tryz.func18 (code:=oY) Bi Bi Bi (X:=F18 a b c d R) Bi h
end Go.Proofs.YtmhnnmfcjdnlhaaGreatDoor
