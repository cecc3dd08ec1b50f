/- A part. -/
import Derived.Test.YtmechmjjcgdpdaaGreatDoorPJ
import Derived.Test.YtmechmjjcgdpdaaGreatDoorPO
import Derived.Test.YtmechmjjcgdpdaaGreatDoorPQ
import Derived.KernelRfl
set_option linter.unusedVariables false
set_option linter.unusedSimpArgs false
namespace Go.Proofs.YtmechmjjcgdpdaaGreatDoor
def glb:Nat→Option (List AV):=fun g=>match g with|0=>some [Aa 60000,Aa 4095,Aa 400]|1=>some [Bq ⟨#[72,69,73,71,72,84]⟩,Bq ⟨#[72,69,65,68,73,78,71]⟩,Bq ⟨#[83,80,69,69,68]⟩,Bq ⟨#[68,73,82,69,67,84]⟩,Bq ⟨#[72,79,76,68]⟩,Bq ⟨#[67,79,78,84,65,67,84]⟩,Bq ⟨#[76,65,78,68]⟩]|6=>some [AV.sc (.int .u64 1),AV.sc (.int .u64 10),AV.sc (.int .u64 100),AV.sc (.int .u64 1000),AV.sc (.int .u64 10000),AV.sc (.int .u64 100000),AV.sc (.int .u64 1000000),AV.sc (.int .u64 10000000),AV.sc (.int .u64 100000000),AV.sc (.int .u64 1000000000),AV.sc (.int .u64 10000000000),AV.sc (.int .u64 100000000000),AV.sc (.int .u64 1000000000000),AV.sc (.int .u64 10000000000000),AV.sc (.int .u64 100000000000000),AV.sc (.int .u64 1000000000000000),AV.sc (.int .u64 10000000000000000),AV.sc (.int .u64 100000000000000000),AV.sc (.int .u64 1000000000000000000),AV.sc (.int .u64 10000000000000000000)]|9=>some [AV.sc (.float .f64 13666448263388469915),AV.sc (.float .f64 4477121864728985349),AV.sc (.float .f64 13732177093698800582),AV.sc (.float .f64 4537941361668146421),AV.sc (.float .f64 13787419979223748497),AV.sc (.float .f64 4586165620538955083)]|10=>some [AV.sc (.float .f64 4460209587652500685),AV.sc (.float .f64 13716528389658582877),AV.sc (.float .f64 4523617212962785441),AV.sc (.float .f64 13774824197404483331),AV.sc (.float .f64 4575957461383575504),AV.sc (.float .f64 13818544856648471880)]|_=>none
def Aq0 (g:Nat):AV:=match glb g with|some cs=> .B6 cs 0|none=> .El
noncomputable abbrev pg:Program:=Tryz.prog
theorem Dl:Tryz.prog.follows .mixedOrders=true:=by kernel_rfl
def Anj:List Nat:=[3,4,7,8,9,10,11,12,13,15,16,17,18,19,20,21,22,23,24,25,26,27,28,29,30,31,32,33,34,35,36,37,38,39,40,41,43,44,45,46,47,48,52,54,57,58,59,60,61,62,63,66,67,68,69,70,72,77,79,80,83,84,85,86,89,90,91,92,94,95,98,99,100,102,103,104,105,106,109,110,112,113,114,115,116,117,118,119,120,122,123,124,128,135,141,142,143,144,145,147,149,150,151,152,153,154,155,156,158,159,160,161,162,164,165,166,169,170,173,175,176,177,178,179,181,182,184,187,188,189,191,192,193,194,196,197,199,201,211,212,213,215,216,217,220,221,222,223,224,225,234,238,248,249,250,251,252,253,271,272,273,274,275,277,278,279,280,281,285,298,299,300,301,302,303,304,305,306,307,308,309,326,327,328,334,335,336,337,338,341,352,353,354,355,357,358,359,360,361,362,363,367,368,369,370,371,383,384,385,389]
def KK:I5:=⟨fun f=>Anj.contains f,glb⟩
def KF:I5:=⟨fun _=>false,glb⟩
structure Ab where
 Position:ByteArray
 Ak:(List ByteArray)
 deriving DecidableEq
def Ab.E:En Ab where
 size:=2
 enc m:=[Bq m.Position,Ai Aw m.Ak]
 len _:=rfl
 pos:=by decide
 cell _:=rfl
 Cs m:=by simp [Ap,clean,Aj]
 Vr m:=by simp [Fk,norm,Fv]
theorem Ab.nf:Kk Ab.E:=by
 intro x c hc f l
 simp only [Ab.E,List.mem_cons,List.not_mem_nil,or_false] at hc
 rcases hc with rfl|rfl<;>exact (fun h=>by cases h)
structure H6 where
 C6:Int
 Cp:Int
 deriving DecidableEq
def H6.E:En H6 where
 size:=2
 enc m:=[Aa m.C6,Aa m.Cp]
 len _:=rfl
 pos:=by decide
 cell _:=rfl
 Cs _:=rfl
 Vr _:=rfl
theorem H6.nf:Kk H6.E:=by
 intro x c hc f l
 simp only [H6.E,List.mem_cons,List.not_mem_nil,or_false] at hc
 rcases hc with rfl|rfl<;>exact (fun h=>by cases h)
structure Ad where
 Am:Int
 A5:Int
 A6:Int
 Ar:Int
 Bl:Int
 Co:Int
 deriving DecidableEq
def Ad.E:En Ad where
 size:=6
 enc m:=[Aa m.Am,Aa m.A5,Aa m.A6,Aa m.Ar,Aa m.Bl,Aa m.Co]
 len _:=rfl
 pos:=by decide
 cell _:=rfl
 Cs _:=rfl
 Vr _:=rfl
theorem Ad.nf:Kk Ad.E:=by
 intro x c hc f l
 simp only [Ad.E,List.mem_cons,List.not_mem_nil,or_false] at hc
 rcases hc with rfl|rfl|rfl|rfl|rfl|rfl<;>exact (fun h=>by cases h)
structure TP where
 X:Int
 Y:Int
 deriving DecidableEq
def TP.E:En TP where
 size:=2
 enc m:=[Aa m.X,Aa m.Y]
 len _:=rfl
 pos:=by decide
 cell _:=rfl
 Cs _:=rfl
 Vr _:=rfl
theorem TP.nf:Kk TP.E:=by
 intro x c hc f l
 simp only [TP.E,List.mem_cons,List.not_mem_nil,or_false] at hc
 rcases hc with rfl|rfl<;>exact (fun h=>by cases h)
structure Br where
 bC:Int
 To:Int
 deriving DecidableEq
def Br.E:En Br where
 size:=2
 enc m:=[Aa m.bC,Aa m.To]
 len _:=rfl
 pos:=by decide
 cell _:=rfl
 Cs _:=rfl
 Vr _:=rfl
theorem Br.nf:Kk Br.E:=by
 intro x c hc f l
 simp only [Br.E,List.mem_cons,List.not_mem_nil,or_false] at hc
 rcases hc with rfl|rfl<;>exact (fun h=>by cases h)
structure E6 where
 jA:Int
 jK:Int
 jV:Int
 gQ:Int
 kB:Int
 kI:Int
 jL:Int
 jR:Int
 gK:Int
 jT:Int
 jU:Int
 iW:Int
 Tb:Int
 Tc:Int
 Pr:Int
 Ti:Int
 deriving DecidableEq
def E6.E:En E6 where
 size:=16
 enc m:=[Aa m.jA,Aa m.jK,Aa m.jV,Aa m.gQ,Aa m.kB,Aa m.kI,Aa m.jL,Aa m.jR,Aa m.gK,Aa m.jT,Aa m.jU,Aa m.iW,Aa m.Tb,Aa m.Tc,Aa m.Pr,Aa m.Ti]
 len _:=rfl
 pos:=by decide
 cell _:=rfl
 Cs _:=rfl
 Vr _:=rfl
theorem E6.nf:Kk E6.E:=by
 intro x c hc f l
 simp only [E6.E,List.mem_cons,List.not_mem_nil,or_false] at hc
 rcases hc with rfl|rfl|rfl|rfl|rfl|rfl|rfl|rfl|rfl|rfl|rfl|rfl|rfl|rfl|rfl|rfl<;>exact (fun h=>by cases h)
structure De where
 c0:Int
 c1:Int
 c2:Int
 c3:Int
 deriving DecidableEq
def De.E:En De where
 size:=4
 enc m:=[Aa m.c0,Aa m.c1,Aa m.c2,Aa m.c3]
 len _:=rfl
 pos:=by decide
 cell _:=rfl
 Cs _:=rfl
 Vr _:=rfl
theorem De.nf:Kk De.E:=by
 intro x c hc f l
 simp only [De.E,List.mem_cons,List.not_mem_nil,or_false] at hc
 rcases hc with rfl|rfl|rfl|rfl<;>exact (fun h=>by cases h)
structure Al where
 D0:(List TP)
 Hw:Int
 D4:Int
 deriving DecidableEq
def Al.E:En Al where
 size:=3
 enc m:=[Ai TP.E m.D0,Aa m.Hw,Aa m.D4]
 len _:=rfl
 pos:=by decide
 cell _:=rfl
 Cs m:=by simp [Ap,clean,Aj]
 Vr m:=by simp [Fk,norm,Fv]
theorem Al.nf:Kk Al.E:=by
 intro x c hc f l
 simp only [Al.E,List.mem_cons,List.not_mem_nil,or_false] at hc
 rcases hc with rfl|rfl|rfl<;>exact (fun h=>by cases h)
structure Au where
 Name:ByteArray
 Room:(List Al)
 deriving DecidableEq
def Au.E:En Au where
 size:=2
 enc m:=[Bq m.Name,Ai Al.E m.Room]
 len _:=rfl
 pos:=by decide
 cell _:=rfl
 Cs m:=by simp [Ap,clean,Aj]
 Vr m:=by simp [Fk,norm,Fv]
theorem Au.nf:Kk Au.E:=by
 intro x c hc f l
 simp only [Au.E,List.mem_cons,List.not_mem_nil,or_false] at hc
 rcases hc with rfl|rfl<;>exact (fun h=>by cases h)
theorem TP.Am6 (x y:TP) {ty n:Nat} {look:Nat→Option Bk}:Cv Tryz.prog (.binOp .eql 51 (.tmp 0) (.tmp 1) 51) ty [.agg [(Aa x.X),(Aa x.Y)],.agg [(Aa y.X),(Aa y.Y)]] look n=some (Ae (decide (x=y)),[]):=
 yU (xs:=[.int .i64 x.X,.int .i64 x.Y]) (ys:=[.int .i64 y.X,.int .i64 y.Y]) (by kernel_rfl) (by kernel_rfl) (by kernel_rfl) (sK Tryz.underlying51 (by kernel_rfl) (fQ (a:=.int .i64 x.X) (b:=.int .i64 y.X) (by decide) (by kernel_rfl) (by kernel_rfl) (eq_int Tryz.underlying3) (fQ (a:=.int .i64 x.Y) (b:=.int .i64 y.Y) (by decide) (by kernel_rfl) (by kernel_rfl) (eq_int Tryz.underlying3) Ack))) (by cases x;cases y;rw [Bool.eq_iff_iff];simp [Apy,and_assoc,or_assoc])
theorem B8.{u} {α:Sort u} {a b:α} (h:a=b:=by first|rfl|(simp (disch:=first|decide|assumption) only [lk])):a=b:=h
theorem Bf.{u} {α:Sort u} {a b:α} (h:a=b:=by kernel_rfl):a=b:=h
theorem asE {p:Prop} (h:p:=by first|assumption|simp):p:=h
end Go.Proofs.YtmechmjjcgdpdaaGreatDoor
