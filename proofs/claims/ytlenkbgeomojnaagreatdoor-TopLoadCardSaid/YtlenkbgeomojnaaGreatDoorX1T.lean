/- The program's types as plain ones; its package-level variables; functions that are called with memory of their own. Printed by wip/Ext.lean.txt. -/
import Derived.Test.YtlenkbgeomojnaaGreatDoorPJ
import Derived.Test.YtlenkbgeomojnaaGreatDoorPQ
import Derived.KernelRfl
set_option linter.unusedVariables false
set_option linter.unusedSimpArgs false
namespace Go.Proofs.YtlenkbgeomojnaaGreatDoor
def glb:Nat→Option (List AV):=fun g=>match g with|0=>some [intA 60000,intA 4095,intA 400]|1=>some [strA ⟨#[72,69,73,71,72,84]⟩,strA ⟨#[72,69,65,68,73,78,71]⟩,strA ⟨#[83,80,69,69,68]⟩,strA ⟨#[68,73,82,69,67,84]⟩,strA ⟨#[72,79,76,68]⟩,strA ⟨#[67,79,78,84,65,67,84]⟩,strA ⟨#[76,65,78,68]⟩]|6=>some [AV.sc (.int .u64 1),AV.sc (.int .u64 10),AV.sc (.int .u64 100),AV.sc (.int .u64 1000),AV.sc (.int .u64 10000),AV.sc (.int .u64 100000),AV.sc (.int .u64 1000000),AV.sc (.int .u64 10000000),AV.sc (.int .u64 100000000),AV.sc (.int .u64 1000000000),AV.sc (.int .u64 10000000000),AV.sc (.int .u64 100000000000),AV.sc (.int .u64 1000000000000),AV.sc (.int .u64 10000000000000),AV.sc (.int .u64 100000000000000),AV.sc (.int .u64 1000000000000000),AV.sc (.int .u64 10000000000000000),AV.sc (.int .u64 100000000000000000),AV.sc (.int .u64 1000000000000000000),AV.sc (.int .u64 10000000000000000000)]|9=>some [AV.sc (.float .f64 13666448263388469915),AV.sc (.float .f64 4477121864728985349),AV.sc (.float .f64 13732177093698800582),AV.sc (.float .f64 4537941361668146421),AV.sc (.float .f64 13787419979223748497),AV.sc (.float .f64 4586165620538955083)]|10=>some [AV.sc (.float .f64 4460209587652500685),AV.sc (.float .f64 13716528389658582877),AV.sc (.float .f64 4523617212962785441),AV.sc (.float .f64 13774824197404483331),AV.sc (.float .f64 4575957461383575504),AV.sc (.float .f64 13818544856648471880)]|_=>none
def gval (g:Nat):AV:=match glb g with|some cs=> .ept cs 0|none=> .und
noncomputable abbrev pg:Program:=Tryz.prog
theorem fol:Tryz.prog.follows .mixedOrders=true:=by kernel_rfl
def pureL:List Nat:=[3,4,5,7,8,9,10,11,12,13,14,15,16,17,18,19,20,21,22,23,24,25,26,27,28,29,30,31,32,33,34,36,37,38,42,43,44,45,46,49,50,51,52,53,54,57,58,59,60,61,63,68,70,71,72,74,75,76,77,80,81,82,83,85,86,89,90,91,93,94,95,96,97,100,101,103,104,105,106,107,108,109,110,112,113,115,117,119,120,121,127,128,129,130,131,132,133,134,136,137,138,139,140,141,142,144,145,146,149,150,153,155,156,157,158,159,161,162,164,167,168,169,171,172,173,174,176,179,181,183,193,199,200,201,203,205,206,207,208,209,210,213,214,215,216,217,218,227,231,241,242,243,244,245,246,268,269,270,271,272,274,275,276,277,278,282,295,296,297,298,299,300,301,302,303,304,305,306,324,325,326,332,333,334,335,336,339,350,351,352,353,355,356,357,358,359,360,361,365,366,367,368,369,380,381,382,386]
def KK:Cfg:=⟨fun f=>pureL.contains f,glb⟩
def KF:Cfg:=⟨fun _=>false,glb⟩
structure TSep where
 Lateral:Int
 Vertical:Int
 deriving DecidableEq
def TSep.E:En TSep where
 size:=2
 enc m:=[intA m.Lateral,intA m.Vertical]
 len _:=rfl
 pos:=by decide
 cell _:=rfl
 cln _:=rfl
 nrm _:=rfl
theorem TSep.nf:NoFn TSep.E:=by
 intro x c hc f l
 simp only [TSep.E,List.mem_cons,List.not_mem_nil,or_false] at hc
 rcases hc with rfl|rfl<;>exact (fun h=>by cases h)
structure TTubeNode where
 Node_Time:Int
 Node_At_X:Int
 Node_At_Y:Int
 Node_Height:Int
 Radius:Int
 Band:Int
 deriving DecidableEq
def TTubeNode.E:En TTubeNode where
 size:=6
 enc m:=[intA m.Node_Time,intA m.Node_At_X,intA m.Node_At_Y,intA m.Node_Height,intA m.Radius,intA m.Band]
 len _:=rfl
 pos:=by decide
 cell _:=rfl
 cln _:=rfl
 nrm _:=rfl
theorem TTubeNode.nf:NoFn TTubeNode.E:=by
 intro x c hc f l
 simp only [TTubeNode.E,List.mem_cons,List.not_mem_nil,or_false] at hc
 rcases hc with rfl|rfl|rfl|rfl|rfl|rfl<;>exact (fun h=>by cases h)
structure TP where
 X:Int
 Y:Int
 deriving DecidableEq
def TP.E:En TP where
 size:=2
 enc m:=[intA m.X,intA m.Y]
 len _:=rfl
 pos:=by decide
 cell _:=rfl
 cln _:=rfl
 nrm _:=rfl
theorem TP.nf:NoFn TP.E:=by
 intro x c hc f l
 simp only [TP.E,List.mem_cons,List.not_mem_nil,or_false] at hc
 rcases hc with rfl|rfl<;>exact (fun h=>by cases h)
structure TSpan where
 From:Int
 To:Int
 deriving DecidableEq
def TSpan.E:En TSpan where
 size:=2
 enc m:=[intA m.From,intA m.To]
 len _:=rfl
 pos:=by decide
 cell _:=rfl
 cln _:=rfl
 nrm _:=rfl
theorem TSpan.nf:NoFn TSpan.E:=by
 intro x c hc f l
 simp only [TSpan.E,List.mem_cons,List.not_mem_nil,or_false] at hc
 rcases hc with rfl|rfl<;>exact (fun h=>by cases h)
structure TWakeTable where
 c0_0:Int
 c0_1:Int
 c0_2:Int
 c0_3:Int
 c1_0:Int
 c1_1:Int
 c1_2:Int
 c1_3:Int
 c2_0:Int
 c2_1:Int
 c2_2:Int
 c2_3:Int
 c3_0:Int
 c3_1:Int
 c3_2:Int
 c3_3:Int
 deriving DecidableEq
def TWakeTable.E:En TWakeTable where
 size:=16
 enc m:=[intA m.c0_0,intA m.c0_1,intA m.c0_2,intA m.c0_3,intA m.c1_0,intA m.c1_1,intA m.c1_2,intA m.c1_3,intA m.c2_0,intA m.c2_1,intA m.c2_2,intA m.c2_3,intA m.c3_0,intA m.c3_1,intA m.c3_2,intA m.c3_3]
 len _:=rfl
 pos:=by decide
 cell _:=rfl
 cln _:=rfl
 nrm _:=rfl
theorem TWakeTable.nf:NoFn TWakeTable.E:=by
 intro x c hc f l
 simp only [TWakeTable.E,List.mem_cons,List.not_mem_nil,or_false] at hc
 rcases hc with rfl|rfl|rfl|rfl|rfl|rfl|rfl|rfl|rfl|rfl|rfl|rfl|rfl|rfl|rfl|rfl<;>exact (fun h=>by cases h)
structure T92 where
 c0:Int
 c1:Int
 c2:Int
 c3:Int
 deriving DecidableEq
def T92.E:En T92 where
 size:=4
 enc m:=[intA m.c0,intA m.c1,intA m.c2,intA m.c3]
 len _:=rfl
 pos:=by decide
 cell _:=rfl
 cln _:=rfl
 nrm _:=rfl
theorem T92.nf:NoFn T92.E:=by
 intro x c hc f l
 simp only [T92.E,List.mem_cons,List.not_mem_nil,or_false] at hc
 rcases hc with rfl|rfl|rfl|rfl<;>exact (fun h=>by cases h)
structure TVolume where
 Area:(List TP)
 Low:Int
 High:Int
 deriving DecidableEq
def TVolume.E:En TVolume where
 size:=3
 enc m:=[lstA TP.E m.Area,intA m.Low,intA m.High]
 len _:=rfl
 pos:=by decide
 cell _:=rfl
 cln m:=by simp [cleans,clean,encs_clean]
 nrm m:=by simp [norms,norm,encs_norm]
theorem TVolume.nf:NoFn TVolume.E:=by
 intro x c hc f l
 simp only [TVolume.E,List.mem_cons,List.not_mem_nil,or_false] at hc
 rcases hc with rfl|rfl|rfl<;>exact (fun h=>by cases h)
structure TSector where
 Name:ByteArray
 Room:(List TVolume)
 deriving DecidableEq
def TSector.E:En TSector where
 size:=2
 enc m:=[strA m.Name,lstA TVolume.E m.Room]
 len _:=rfl
 pos:=by decide
 cell _:=rfl
 cln m:=by simp [cleans,clean,encs_clean]
 nrm m:=by simp [norms,norm,encs_norm]
theorem TSector.nf:NoFn TSector.E:=by
 intro x c hc f l
 simp only [TSector.E,List.mem_cons,List.not_mem_nil,or_false] at hc
 rcases hc with rfl|rfl<;>exact (fun h=>by cases h)
theorem TP.eql38 (x y:TP) {ty n:Nat} {look:Nat→Option ABlk}:opA Tryz.prog (.binOp .eql 38 (.tmp 0) (.tmp 1) 38) ty [.agg [(intA x.X),(intA x.Y)],.agg [(intA y.X),(intA y.Y)]] look n=some (boolA (decide (x=y)),[]):=
 opA_eqlG (xs:=[.int .i64 x.X,.int .i64 x.Y]) (ys:=[.int .i64 y.X,.int .i64 y.Y]) (by kernel_rfl) (by kernel_rfl) (by kernel_rfl) (eq_struct Tryz.underlying38 (by kernel_rfl) (eqF_cons (a:=.int .i64 x.X) (b:=.int .i64 y.X) (by decide) (by kernel_rfl) (by kernel_rfl) (eq_int Tryz.underlying3) (eqF_cons (a:=.int .i64 x.Y) (b:=.int .i64 y.Y) (by decide) (by kernel_rfl) (by kernel_rfl) (eq_int Tryz.underlying3) eqF_nil))) (by cases x;cases y;rw [Bool.eq_iff_iff];simp [beqB,and_assoc,or_assoc])
theorem lkE.{u} {α:Sort u} {a b:α} (h:a=b:=by first|rfl|(simp (disch:=first|decide|assumption) only [mpushs_nil,mpushs_cons,mget_hd,mget_tl,mget_appW_o,mget_appW_n,mget_appW_e])):a=b:=h
theorem krE.{u} {α:Sort u} {a b:α} (h:a=b:=by kernel_rfl):a=b:=h
theorem asE {p:Prop} (h:p:=by first|assumption|simp):p:=h
end Go.Proofs.YtlenkbgeomojnaaGreatDoor
