/- A part. -/
import Derived.Test.YtkdodbfnocdkdaaGreatDoorPJ
import Derived.Test.YtkdodbfnocdkdaaGreatDoorPQ
import Derived.KernelRfl
set_option linter.unusedVariables false
set_option linter.unusedSimpArgs false
namespace Go.Proofs.YtkdodbfnocdkdaaGreatDoor
def glb:Nat→Option (List AV):=fun g=>match g with|0=>some [Aa 60000,Aa 4095,Aa 400]|1=>some [An ⟨#[72,69,73,71,72,84]⟩,An ⟨#[72,69,65,68,73,78,71]⟩,An ⟨#[83,80,69,69,68]⟩,An ⟨#[68,73,82,69,67,84]⟩,An ⟨#[72,79,76,68]⟩,An ⟨#[67,79,78,84,65,67,84]⟩,An ⟨#[76,65,78,68]⟩]|6=>some [AV.sc (.int .u64 1),AV.sc (.int .u64 10),AV.sc (.int .u64 100),AV.sc (.int .u64 1000),AV.sc (.int .u64 10000),AV.sc (.int .u64 100000),AV.sc (.int .u64 1000000),AV.sc (.int .u64 10000000),AV.sc (.int .u64 100000000),AV.sc (.int .u64 1000000000),AV.sc (.int .u64 10000000000),AV.sc (.int .u64 100000000000),AV.sc (.int .u64 1000000000000),AV.sc (.int .u64 10000000000000),AV.sc (.int .u64 100000000000000),AV.sc (.int .u64 1000000000000000),AV.sc (.int .u64 10000000000000000),AV.sc (.int .u64 100000000000000000),AV.sc (.int .u64 1000000000000000000),AV.sc (.int .u64 10000000000000000000)]|9=>some [AV.sc (.float .f64 13666448263388469915),AV.sc (.float .f64 4477121864728985349),AV.sc (.float .f64 13732177093698800582),AV.sc (.float .f64 4537941361668146421),AV.sc (.float .f64 13787419979223748497),AV.sc (.float .f64 4586165620538955083)]|10=>some [AV.sc (.float .f64 4460209587652500685),AV.sc (.float .f64 13716528389658582877),AV.sc (.float .f64 4523617212962785441),AV.sc (.float .f64 13774824197404483331),AV.sc (.float .f64 4575957461383575504),AV.sc (.float .f64 13818544856648471880)]|_=>none
def O4 (g:Nat):AV:=match glb g with|some cs=> .Cq cs 0|none=> .Es
noncomputable abbrev pg:Program:=Tryz.prog
theorem Re:Tryz.prog.follows .mixedOrders=true:=by kernel_rfl
def Aqe:List Nat:=[3,4,5,6,7,8,9,10,11,18,19,20,21,22,23,24,25,26,27,28,29,30,31,32,33,34,35,36,37,38,39,40,42,43,44,45,46,47,48,49,50,52,57,59,60,64,65,66,68,69,70,71,72,73,74,77,78,79,80,81,82,85,86,87,88,91,92,93,95,96,99,100,101,103,104,105,106,107,110,111,113,114,115,116,117,118,120,121,122,123,124,125,126,127,128,130,131,132,138,139,142,144,146,148,149,150,155,158,159,162,164,165,166,167,168,170,171,173,176,177,178,179,181,182,183,185,187,188,189,190,191,192,195,196,216,219,228,232,242,243,244,245,246,247,254,255,256,257,258,260,261,262,284,297,298,299,300,301,315,316,327,328,329,330,331,332,333,343,344,345,346,349,350,351,352,355,356,357,358,362]
def KK:Kq:=⟨fun f=>Aqe.contains f,glb⟩
def KF:Kq:=⟨fun _=>false,glb⟩
structure Db where
 Bf:Int
 A9:Int
 deriving DecidableEq
def Db.E:En Db where
 size:=2
 enc m:=[Aa m.Bf,Aa m.A9]
 len _:=rfl
 pos:=by decide
 cell _:=rfl
 Q0 _:=rfl
 Uv _:=rfl
theorem Db.nf:Ke Db.E:=by
 intro x c hc f l
 simp only [Db.E,List.mem_cons,List.not_mem_nil,or_false] at hc
 rcases hc with rfl|rfl<;>exact (fun h=>by cases h)
structure Ab where
 Ac:Int
 Ak:Int
 Aj:Int
 Af:Int
 Aw:Int
 Bi:Int
 deriving DecidableEq
def Ab.E:En Ab where
 size:=6
 enc m:=[Aa m.Ac,Aa m.Ak,Aa m.Aj,Aa m.Af,Aa m.Aw,Aa m.Bi]
 len _:=rfl
 pos:=by decide
 cell _:=rfl
 Q0 _:=rfl
 Uv _:=rfl
theorem Ab.nf:Ke Ab.E:=by
 intro x c hc f l
 simp only [Ab.E,List.mem_cons,List.not_mem_nil,or_false] at hc
 rcases hc with rfl|rfl|rfl|rfl|rfl|rfl<;>exact (fun h=>by cases h)
structure TP where
 X:Int
 Y:Int
 deriving DecidableEq
def TP.E:En TP where
 size:=2
 enc m:=[Aa m.X,Aa m.Y]
 len _:=rfl
 pos:=by decide
 cell _:=rfl
 Q0 _:=rfl
 Uv _:=rfl
theorem TP.nf:Ke TP.E:=by
 intro x c hc f l
 simp only [TP.E,List.mem_cons,List.not_mem_nil,or_false] at hc
 rcases hc with rfl|rfl<;>exact (fun h=>by cases h)
structure Bq where
 Cs:Int
 To:Int
 deriving DecidableEq
def Bq.E:En Bq where
 size:=2
 enc m:=[Aa m.Cs,Aa m.To]
 len _:=rfl
 pos:=by decide
 cell _:=rfl
 Q0 _:=rfl
 Uv _:=rfl
theorem Bq.nf:Ke Bq.E:=by
 intro x c hc f l
 simp only [Bq.E,List.mem_cons,List.not_mem_nil,or_false] at hc
 rcases hc with rfl|rfl<;>exact (fun h=>by cases h)
structure Gn where
 w6:Int
 xW:Int
 rY:Int
 sS:Int
 sM:Int
 rV:Int
 vG:Int
 uV:Int
 tI:Int
 Aaz:Int
 xS:Int
 xK:Int
 qY:Int
 rL:Int
 zJ:Int
 Aa5:Int
 deriving DecidableEq
def Gn.E:En Gn where
 size:=16
 enc m:=[Aa m.w6,Aa m.xW,Aa m.rY,Aa m.sS,Aa m.sM,Aa m.rV,Aa m.vG,Aa m.uV,Aa m.tI,Aa m.Aaz,Aa m.xS,Aa m.xK,Aa m.qY,Aa m.rL,Aa m.zJ,Aa m.Aa5]
 len _:=rfl
 pos:=by decide
 cell _:=rfl
 Q0 _:=rfl
 Uv _:=rfl
theorem Gn.nf:Ke Gn.E:=by
 intro x c hc f l
 simp only [Gn.E,List.mem_cons,List.not_mem_nil,or_false] at hc
 rcases hc with rfl|rfl|rfl|rfl|rfl|rfl|rfl|rfl|rfl|rfl|rfl|rfl|rfl|rfl|rfl|rfl<;>exact (fun h=>by cases h)
structure Hn where
 c0:Int
 c1:Int
 c2:Int
 c3:Int
 deriving DecidableEq
def Hn.E:En Hn where
 size:=4
 enc m:=[Aa m.c0,Aa m.c1,Aa m.c2,Aa m.c3]
 len _:=rfl
 pos:=by decide
 cell _:=rfl
 Q0 _:=rfl
 Uv _:=rfl
theorem Hn.nf:Ke Hn.E:=by
 intro x c hc f l
 simp only [Hn.E,List.mem_cons,List.not_mem_nil,or_false] at hc
 rcases hc with rfl|rfl|rfl|rfl<;>exact (fun h=>by cases h)
structure Dg where
 Name:ByteArray
 Fa:Int
 B8:Int
 C5:Int
 Cb:Int
 Eg:Int
 Eh:Int
 deriving DecidableEq
def Dg.E:En Dg where
 size:=7
 enc m:=[An m.Name,Aa m.Fa,Aa m.B8,Aa m.C5,Aa m.Cb,Aa m.Eg,Aa m.Eh]
 len _:=rfl
 pos:=by decide
 cell _:=rfl
 Q0 _:=rfl
 Uv _:=rfl
theorem Dg.nf:Ke Dg.E:=by
 intro x c hc f l
 simp only [Dg.E,List.mem_cons,List.not_mem_nil,or_false] at hc
 rcases hc with rfl|rfl|rfl|rfl|rfl|rfl|rfl<;>exact (fun h=>by cases h)
structure Ae where
 Call:ByteArray
 Kind:Int
 Value:Int
 Fix:ByteArray
 deriving DecidableEq
def Ae.E:En Ae where
 size:=4
 enc m:=[An m.Call,Aa m.Kind,Aa m.Value,An m.Fix]
 len _:=rfl
 pos:=by decide
 cell _:=rfl
 Q0 _:=rfl
 Uv _:=rfl
theorem Ae.nf:Ke Ae.E:=by
 intro x c hc f l
 simp only [Ae.E,List.mem_cons,List.not_mem_nil,or_false] at hc
 rcases hc with rfl|rfl|rfl|rfl<;>exact (fun h=>by cases h)
structure Fs where
 Av:ByteArray
 Aq:Int
 Am:Int
 Ay:ByteArray
 before:(List Ab)
 later:(List Ab)
 Ap:Int
 A6:Int
 A5:Int
 Au:Int
 Bj:Int
 B9:Int
 B2:ByteArray
 B1:Int
 Bc:Int
 Bp:Int
 Bb:Int
 Bu:Int
 Bt:Int
 Dj:Int
 Dp:Int
 whole:(List Ab)
 deriving DecidableEq
def Fs.E:En Fs where
 size:=22
 enc m:=[An m.Av,Aa m.Aq,Aa m.Am,An m.Ay,Ar Ab.E m.before,Ar Ab.E m.later,Aa m.Ap,Aa m.A6,Aa m.A5,Aa m.Au,Aa m.Bj,Aa m.B9,An m.B2,Aa m.B1,Aa m.Bc,Aa m.Bp,Aa m.Bb,Aa m.Bu,Aa m.Bt,Aa m.Dj,Aa m.Dp,Ar Ab.E m.whole]
 len _:=rfl
 pos:=by decide
 cell _:=rfl
 Q0 m:=by simp [Bk,clean,Bz]
 Uv m:=by simp [He,norm,Hx]
theorem Fs.nf:Ke Fs.E:=by
 intro x c hc f l
 simp only [Fs.E,List.mem_cons,List.not_mem_nil,or_false] at hc
 rcases hc with rfl|rfl|rfl|rfl|rfl|rfl|rfl|rfl|rfl|rfl|rfl|rfl|rfl|rfl|rfl|rfl|rfl|rfl|rfl|rfl|rfl|rfl<;>exact (fun h=>by cases h)
structure Ah where
 Av:ByteArray
 Aq:Int
 Am:Int
 Ay:ByteArray
 Time:Int
 deriving DecidableEq
def Ah.E:En Ah where
 size:=5
 enc m:=[An m.Av,Aa m.Aq,Aa m.Am,An m.Ay,Aa m.Time]
 len _:=rfl
 pos:=by decide
 cell _:=rfl
 Q0 _:=rfl
 Uv _:=rfl
theorem Ah.nf:Ke Ah.E:=by
 intro x c hc f l
 simp only [Ah.E,List.mem_cons,List.not_mem_nil,or_false] at hc
 rcases hc with rfl|rfl|rfl|rfl|rfl<;>exact (fun h=>by cases h)
theorem Ae.Aln (x y:Ae) {ty n:Nat} {look:Nat→Option Be}:Ce Tryz.prog (.binOp .neq 30 (.tmp 0) (.tmp 1) 30) ty [.agg [(An x.Call),(Aa x.Kind),(Aa x.Value),(An x.Fix)],.agg [(An y.Call),(Aa y.Kind),(Aa y.Value),(An y.Fix)]] look n=some (Ai (!(decide (x=y))),[]):=
 fI (xs:=[.string x.Call,.int .i64 x.Kind,.int .i64 x.Value,.string x.Fix]) (ys:=[.string y.Call,.int .i64 y.Kind,.int .i64 y.Value,.string y.Fix]) (by kernel_rfl) (by kernel_rfl) (by kernel_rfl) (X0 Tryz.underlying30 (by kernel_rfl) (I1 (a:=.string x.Call) (b:=.string y.Call) (by decide) (by kernel_rfl) (by kernel_rfl) (zW Tryz.underlying9) (I1 (a:=.int .i64 x.Kind) (b:=.int .i64 y.Kind) (by decide) (by kernel_rfl) (by kernel_rfl) (eq_int Tryz.underlying3) (I1 (a:=.int .i64 x.Value) (b:=.int .i64 y.Value) (by decide) (by kernel_rfl) (by kernel_rfl) (eq_int Tryz.underlying3) (I1 (a:=.string x.Fix) (b:=.string y.Fix) (by decide) (by kernel_rfl) (by kernel_rfl) (zW Tryz.underlying9) j6))))) (by cases x;cases y;rw [Bool.eq_iff_iff];simp [Ai0,and_assoc,or_assoc])
structure Ao where
 A:Int
 B:Int
 Cs:Int
 To:Int
 deriving DecidableEq
def Ao.E:En Ao where
 size:=4
 enc m:=[Aa m.A,Aa m.B,Aa m.Cs,Aa m.To]
 len _:=rfl
 pos:=by decide
 cell _:=rfl
 Q0 _:=rfl
 Uv _:=rfl
theorem Ao.nf:Ke Ao.E:=by
 intro x c hc f l
 simp only [Ao.E,List.mem_cons,List.not_mem_nil,or_false] at hc
 rcases hc with rfl|rfl|rfl|rfl<;>exact (fun h=>by cases h)
theorem Ao.Alz (x y:Ao) {ty n:Nat} {look:Nat→Option Be}:Ce Tryz.prog (.binOp .neq 53 (.tmp 0) (.tmp 1) 53) ty [.agg [(Aa x.A),(Aa x.B),(Aa x.Cs),(Aa x.To)],.agg [(Aa y.A),(Aa y.B),(Aa y.Cs),(Aa y.To)]] look n=some (Ai (!(decide (x=y))),[]):=
 fI (xs:=[.int .i64 x.A,.int .i64 x.B,.int .i64 x.Cs,.int .i64 x.To]) (ys:=[.int .i64 y.A,.int .i64 y.B,.int .i64 y.Cs,.int .i64 y.To]) (by kernel_rfl) (by kernel_rfl) (by kernel_rfl) (X0 Tryz.underlying53 (by kernel_rfl) (I1 (a:=.int .i64 x.A) (b:=.int .i64 y.A) (by decide) (by kernel_rfl) (by kernel_rfl) (eq_int Tryz.underlying3) (I1 (a:=.int .i64 x.B) (b:=.int .i64 y.B) (by decide) (by kernel_rfl) (by kernel_rfl) (eq_int Tryz.underlying3) (I1 (a:=.int .i64 x.Cs) (b:=.int .i64 y.Cs) (by decide) (by kernel_rfl) (by kernel_rfl) (eq_int Tryz.underlying3) (I1 (a:=.int .i64 x.To) (b:=.int .i64 y.To) (by decide) (by kernel_rfl) (by kernel_rfl) (eq_int Tryz.underlying3) j6))))) (by cases x;cases y;rw [Bool.eq_iff_iff];simp [Ai0,and_assoc,or_assoc])
theorem Bv.{u} {α:Sort u} {a b:α} (h:a=b:=by first|rfl|(simp (disch:=first|decide|assumption) only [lk])):a=b:=h
theorem B7.{u} {α:Sort u} {a b:α} (h:a=b:=by kernel_rfl):a=b:=h
theorem Ee {π:Nat→Nat} {u v:AV} {us vs:List AV} (hr:P9 us (H3 π vs)) (h:u=Ja π v:=by rfl):P9 (u::us) (H3 π (v::vs)):=Cj (Ms h) hr
theorem qB {p:Prop} (h:p:=by first|assumption|simp):p:=h
end Go.Proofs.YtkdodbfnocdkdaaGreatDoor
