/- A part. -/
import Derived.Test.YtmhnnmfcjdnlhaaGreatDoorPJ
import Derived.Test.YtmhnnmfcjdnlhaaGreatDoorPQ
import Derived.KernelRfl
set_option linter.unusedVariables false
set_option linter.unusedSimpArgs false
namespace Go.Proofs.YtmhnnmfcjdnlhaaGreatDoor
def glb:Nat→Option (List AV):=fun g=>match g with|0=>some [Aa 60000,Aa 4095,Aa 400]|1=>some [Az ⟨#[72,69,73,71,72,84]⟩,Az ⟨#[72,69,65,68,73,78,71]⟩,Az ⟨#[83,80,69,69,68]⟩,Az ⟨#[68,73,82,69,67,84]⟩,Az ⟨#[72,79,76,68]⟩,Az ⟨#[67,79,78,84,65,67,84]⟩,Az ⟨#[76,65,78,68]⟩]|3=>some [AV.sc (.float .f64 13666448263388469915),AV.sc (.float .f64 4477121864728985349),AV.sc (.float .f64 13732177093698800582),AV.sc (.float .f64 4537941361668146421),AV.sc (.float .f64 13787419979223748497),AV.sc (.float .f64 4586165620538955083)]|4=>some [AV.sc (.float .f64 4460209587652500685),AV.sc (.float .f64 13716528389658582877),AV.sc (.float .f64 4523617212962785441),AV.sc (.float .f64 13774824197404483331),AV.sc (.float .f64 4575957461383575504),AV.sc (.float .f64 13818544856648471880)]|_=>none
def Bp (g:Nat):AV:=match glb g with|some cs=> .Dn cs 0|none=> .E9
noncomputable abbrev pg:Program:=Tryz.prog
theorem Ee:Tryz.prog.follows .mixedOrders=true:=by kernel_rfl
def Ac9:List Nat:=[3,4,5,6,7,8,9,10,11,12,13,14,15,16,17,18,19,20,21,22,23,25,30,34,35,36,37,38,39,40,41,42,43,49,51,52,53,54,55,56,57,58,59,60,61,62,63,66,67,68,69,70,71,72,73,74,75,76,77,78,79,81,82,83,84,85,86,87,88,89,90,91,92,94,95,96,97,98,99,100,101,103,104,105,106,107]
def KK:Jz:=⟨fun f=>Ac9.contains f,glb⟩
def KF:Jz:=⟨fun _=>false,glb⟩
structure Ea where
 Bu:Int
 Bj:Int
 deriving DecidableEq
def Ea.E:En Ea where
 size:=2
 enc m:=[Aa m.Bu,Aa m.Bj]
 len _:=rfl
 pos:=by decide
 cell _:=rfl
 Di _:=rfl
 Yp _:=rfl
theorem Ea.nf:K4 Ea.E:=by
 intro x c hc f l
 simp only [Ea.E,List.mem_cons,List.not_mem_nil,or_false] at hc
 rcases hc with rfl|rfl<;>exact (fun h=>by cases h)
structure Ab where
 Ac:Int
 Ak:Int
 Aj:Int
 Ad:Int
 Ay:Int
 Br:Int
 deriving DecidableEq
def Ab.E:En Ab where
 size:=6
 enc m:=[Aa m.Ac,Aa m.Ak,Aa m.Aj,Aa m.Ad,Aa m.Ay,Aa m.Br]
 len _:=rfl
 pos:=by decide
 cell _:=rfl
 Di _:=rfl
 Yp _:=rfl
theorem Ab.nf:K4 Ab.E:=by
 intro x c hc f l
 simp only [Ab.E,List.mem_cons,List.not_mem_nil,or_false] at hc
 rcases hc with rfl|rfl|rfl|rfl|rfl|rfl<;>exact (fun h=>by cases h)
structure TP where
 X:Int
 Y:Int
 deriving DecidableEq
def TP.E:En TP where
 size:=2
 enc m:=[Aa m.X,Aa m.Y]
 len _:=rfl
 pos:=by decide
 cell _:=rfl
 Di _:=rfl
 Yp _:=rfl
theorem TP.nf:K4 TP.E:=by
 intro x c hc f l
 simp only [TP.E,List.mem_cons,List.not_mem_nil,or_false] at hc
 rcases hc with rfl|rfl<;>exact (fun h=>by cases h)
structure Cc where
 Sr:Int
 To:Int
 deriving DecidableEq
def Cc.E:En Cc where
 size:=2
 enc m:=[Aa m.Sr,Aa m.To]
 len _:=rfl
 pos:=by decide
 cell _:=rfl
 Di _:=rfl
 Yp _:=rfl
theorem Cc.nf:K4 Cc.E:=by
 intro x c hc f l
 simp only [Cc.E,List.mem_cons,List.not_mem_nil,or_false] at hc
 rcases hc with rfl|rfl<;>exact (fun h=>by cases h)
structure Dm where
 Name:ByteArray
 D9:Int
 B6:Int
 C1:Int
 Ca:Int
 Dy:Int
 Dz:Int
 deriving DecidableEq
def Dm.E:En Dm where
 size:=7
 enc m:=[Az m.Name,Aa m.D9,Aa m.B6,Aa m.C1,Aa m.Ca,Aa m.Dy,Aa m.Dz]
 len _:=rfl
 pos:=by decide
 cell _:=rfl
 Di _:=rfl
 Yp _:=rfl
theorem Dm.nf:K4 Dm.E:=by
 intro x c hc f l
 simp only [Dm.E,List.mem_cons,List.not_mem_nil,or_false] at hc
 rcases hc with rfl|rfl|rfl|rfl|rfl|rfl|rfl<;>exact (fun h=>by cases h)
structure Ae where
 Call:ByteArray
 Kind:Int
 Value:Int
 Fix:ByteArray
 deriving DecidableEq
def Ae.E:En Ae where
 size:=4
 enc m:=[Az m.Call,Aa m.Kind,Aa m.Value,Az m.Fix]
 len _:=rfl
 pos:=by decide
 cell _:=rfl
 Di _:=rfl
 Yp _:=rfl
theorem Ae.nf:K4 Ae.E:=by
 intro x c hc f l
 simp only [Ae.E,List.mem_cons,List.not_mem_nil,or_false] at hc
 rcases hc with rfl|rfl|rfl|rfl<;>exact (fun h=>by cases h)
structure Fj where
 A7:ByteArray
 A3:Int
 Ar:Int
 Ba:ByteArray
 before:(List Ab)
 later:(List Ab)
 Ap:Int
 A5:Int
 A6:Int
 Au:Int
 Bm:Int
 B8:Int
 B2:ByteArray
 B3:Int
 Bf:Int
 Bs:Int
 Bg:Int
 By:Int
 Bw:Int
 Df:Int
 Dg:Int
 whole:(List Ab)
 deriving DecidableEq
def Fj.E:En Fj where
 size:=22
 enc m:=[Az m.A7,Aa m.A3,Aa m.Ar,Az m.Ba,As Ab.E m.before,As Ab.E m.later,Aa m.Ap,Aa m.A5,Aa m.A6,Aa m.Au,Aa m.Bm,Aa m.B8,Az m.B2,Aa m.B3,Aa m.Bf,Aa m.Bs,Aa m.Bg,Aa m.By,Aa m.Bw,Aa m.Df,Aa m.Dg,As Ab.E m.whole]
 len _:=rfl
 pos:=by decide
 cell _:=rfl
 Di m:=by simp [Av,clean,Al]
 Yp m:=by simp [Hd,norm,H3]
theorem Fj.nf:K4 Fj.E:=by
 intro x c hc f l
 simp only [Fj.E,List.mem_cons,List.not_mem_nil,or_false] at hc
 rcases hc with rfl|rfl|rfl|rfl|rfl|rfl|rfl|rfl|rfl|rfl|rfl|rfl|rfl|rfl|rfl|rfl|rfl|rfl|rfl|rfl|rfl|rfl<;>exact (fun h=>by cases h)
theorem Ae.xU (x y:Ae) {ty n:Nat} {look:Nat→Option B5}:Cs Tryz.prog (.binOp .eql 30 (.tmp 0) (.tmp 1) 30) ty [.agg [(Az x.Call),(Aa x.Kind),(Aa x.Value),(Az x.Fix)],.agg [(Az y.Call),(Aa y.Kind),(Aa y.Value),(Az y.Fix)]] look n=some (Ah (decide (x=y)),[]):=
 kO (xs:=[.string x.Call,.int .i64 x.Kind,.int .i64 x.Value,.string x.Fix]) (ys:=[.string y.Call,.int .i64 y.Kind,.int .i64 y.Value,.string y.Fix]) (by kernel_rfl) (by kernel_rfl) (by kernel_rfl) (Mn Tryz.underlying30 (by kernel_rfl) (Gc (a:=.string x.Call) (b:=.string y.Call) (by decide) (by kernel_rfl) (by kernel_rfl) (jO Tryz.underlying9) (Gc (a:=.int .i64 x.Kind) (b:=.int .i64 y.Kind) (by decide) (by kernel_rfl) (by kernel_rfl) (eq_int Tryz.underlying3) (Gc (a:=.int .i64 x.Value) (b:=.int .i64 y.Value) (by decide) (by kernel_rfl) (by kernel_rfl) (eq_int Tryz.underlying3) (Gc (a:=.string x.Fix) (b:=.string y.Fix) (by decide) (by kernel_rfl) (by kernel_rfl) (jO Tryz.underlying9) Qx))))) (by cases x;cases y;rw [Bool.eq_iff_iff];simp [Ad6,and_assoc,or_assoc])
theorem Ab.Aem (x y:Ab) {ty n:Nat} {look:Nat→Option B5}:Cs Tryz.prog (.binOp .neq 47 (.tmp 0) (.tmp 1) 47) ty [.agg [(Aa x.Ac),(Aa x.Ak),(Aa x.Aj),(Aa x.Ad),(Aa x.Ay),(Aa x.Br)],.agg [(Aa y.Ac),(Aa y.Ak),(Aa y.Aj),(Aa y.Ad),(Aa y.Ay),(Aa y.Br)]] look n=some (Ah (!(decide (x=y))),[]):=
 mQ (xs:=[.int .i64 x.Ac,.int .i64 x.Ak,.int .i64 x.Aj,.int .i64 x.Ad,.int .i64 x.Ay,.int .i64 x.Br]) (ys:=[.int .i64 y.Ac,.int .i64 y.Ak,.int .i64 y.Aj,.int .i64 y.Ad,.int .i64 y.Ay,.int .i64 y.Br]) (by kernel_rfl) (by kernel_rfl) (by kernel_rfl) (Mn Tryz.underlying47 (by kernel_rfl) (Gc (a:=.agg #[.int .i64 x.Ac,.int .i64 x.Ak,.int .i64 x.Aj,.int .i64 x.Ad]) (b:=.agg #[.int .i64 y.Ac,.int .i64 y.Ak,.int .i64 y.Aj,.int .i64 y.Ad]) (by decide) (by kernel_rfl) (by kernel_rfl) (Mn Tryz.underlying45 (by kernel_rfl) (Gc (a:=.int .i64 x.Ac) (b:=.int .i64 y.Ac) (by decide) (by kernel_rfl) (by kernel_rfl) (eq_int Tryz.underlying3) (Gc (a:=.agg #[.int .i64 x.Ak,.int .i64 x.Aj]) (b:=.agg #[.int .i64 y.Ak,.int .i64 y.Aj]) (by decide) (by kernel_rfl) (by kernel_rfl) (Mn Tryz.underlying42 (by kernel_rfl) (Gc (a:=.int .i64 x.Ak) (b:=.int .i64 y.Ak) (by decide) (by kernel_rfl) (by kernel_rfl) (eq_int Tryz.underlying3) (Gc (a:=.int .i64 x.Aj) (b:=.int .i64 y.Aj) (by decide) (by kernel_rfl) (by kernel_rfl) (eq_int Tryz.underlying3) Qx))) (Gc (a:=.int .i64 x.Ad) (b:=.int .i64 y.Ad) (by decide) (by kernel_rfl) (by kernel_rfl) (eq_int Tryz.underlying3) Qx)))) (Gc (a:=.int .i64 x.Ay) (b:=.int .i64 y.Ay) (by decide) (by kernel_rfl) (by kernel_rfl) (eq_int Tryz.underlying3) (Gc (a:=.int .i64 x.Br) (b:=.int .i64 y.Br) (by decide) (by kernel_rfl) (by kernel_rfl) (eq_int Tryz.underlying3) Qx)))) (by cases x;cases y;rw [Bool.eq_iff_iff];simp [Ad6,and_assoc,or_assoc])
theorem lkE.{u} {α:Sort u} {a b:α} (h:a=b:=by first|rfl|(simp (disch:=first|decide|assumption) only [R9,Py,cG,bY,Pw,Lb,P3])):a=b:=h
theorem Bi.{u} {α:Sort u} {a b:α} (h:a=b:=by kernel_rfl):a=b:=h
theorem Ec {π:Nat→Nat} {u v:AV} {us vs:List AV} (hr:Nb us (Hf π vs)) (h:u=Is π v:=by rfl):Nb (u::us) (Hf π (v::vs)):=Co (Ln h) hr
theorem xW {p:Prop} (h:p:=by first|assumption|simp):p:=h
end Go.Proofs.YtmhnnmfcjdnlhaaGreatDoor
