/- A part. -/
import Derived.Test.YtkdodbfnocdkdaaGreatDoorPJ
import Derived.KernelRfl
set_option linter.unusedVariables false
set_option linter.unusedSimpArgs false
namespace Go.Proofs.YtkdodbfnocdkdaaGreatDoor
open Go.RowKit
abbrev Ck (x:Nat):AV:=.sc (.float .f64 x)
def Ahz:En Nat where
 size:=1
 enc x:=[Ck x]
 len _:=rfl
 pos:=by decide
 cell _:=rfl
 Q0 _:=rfl
 Uv _:=rfl
def Ag6:En Int where
 size:=1
 enc x:=[.sc (.int .u64 x)]
 len _:=rfl
 pos:=by decide
 cell _:=rfl
 Q0 _:=rfl
 Uv _:=rfl
theorem Ahz.nf:Ke Ahz:=by intro x c hc f l;simp only [Ahz,List.mem_singleton] at hc;subst hc;exact (fun h=>by cases h)
theorem Ag6.nf:Ke Ag6:=by intro x c hc f l;simp only [Ag6,List.mem_singleton] at hc;subst hc;exact (fun h=>by cases h)
def D6 (a b:Nat):Option Nat:=FloatKind.f64.format.add a b
def F1 (a b:Nat):Option Nat:=FloatKind.f64.format.sub a b
def Cp (a b:Nat):Option Nat:=FloatKind.f64.format.mul a b
def Jy (a b:Nat):Option Nat:=FloatKind.f64.format.div a b
def P6 (a b:Nat):Option Ordering:=FloatKind.f64.format.order a b
def nE (a b:Nat):Bool:=P6 a b==some .eq
def fNe (a b:Nat):Bool:=P6 a b !=some .eq
def fLt (a b:Nat):Bool:=P6 a b==some .lt
def fLe (a b:Nat):Bool:=P6 a b==some .lt||P6 a b==some .eq
def aO (a b:Nat):Bool:=P6 a b==some .gt
def fGe (a b:Nat):Bool:=P6 a b==some .gt||P6 a b==some .eq
def I0 (a:Nat):Nat:=Op.negFloat .f64 a
def Kp (z:Int):Nat:=FloatKind.f64.nearest z
def Tu (k:IntKind) (x:Nat):Option Int:=match (FloatKind.f64.decode x).toInt .zero with
 |some n=>if k.min≤n∧n≤k.max then some n else none
 |none=>none
def Rs (x:Nat):Option Nat:=match FloatKind.f64.decode x with
 |.nan _ _=>none
 |d=>some (FloatKind.f64.encode (d.integral .down))
def E6 (k:IntKind) (x y:Int):Int:=k.wrap (BitVec.ofInt k.bits x &&& BitVec.ofInt k.bits y).toNat
def bOr (k:IntKind) (x y:Int):Int:=k.wrap (BitVec.ofInt k.bits x|||BitVec.ofInt k.bits y).toNat
def Avc (k:IntKind) (x y:Int):Int:=k.wrap (BitVec.ofInt k.bits x ^^^ BitVec.ofInt k.bits y).toNat
def Ho (k:IntKind) (x y:Int):Int:=k.wrap (BitVec.ofInt k.bits x &&& ~~~(BitVec.ofInt k.bits y)).toNat
def Yx (k:IntKind) (a b:Int):Option Int:=if b<0 then none else some (a.fdiv (2 ^ min b.toNat k.bits))
def Auu (k:IntKind) (a b:Int):Option Int:=if b<0 then none else some (k.wrap (a*2 ^ min b.toNat k.bits))
section
variable {P:Program} {look:Nat→Option Be} {t yt ty n:Nat}
theorem F2 {op:Op} {vals:List AV} {v:Value} {u:AV} {m:Sem Value} (e:Ce P op ty vals look n=Hu P (Io vals) ⟨none,op,ty, "",#[],none⟩) (h1:(Lp op && Rj (Io vals) op.operands.toList)=true) (h2:execOp (fun x=>(Km (Io vals) x).getD undef) ⟨none,op,ty, "",#[],none⟩=(m>>=fun v=>pure (Next.value v))) (hm:B5 P m=some v) (h3:G0 v=some u):Ce P op ty vals look n=some (u,[]):=by
 rw [e]
 unfold Hu
 rw [h1,cond_true,h2,C6,hm]
 show (G0 v).map (·,[])=_
 rw [h3];rfl
theorem Ob {op:BinOp} {a b r:Nat} (h:(match op with|.add=>D6 a b|.sub=>F1 a b|.mul=>Cp a b|.quo=>Jy a b|_=>none)=some r):B5 P (Op.floatArith op .f64 a b)=some (.float .f64 r):=by
 cases op<;>simp only [reduceCtorEq] at h<;>(unfold Op.floatArith;simp only [C6,Ep,Option.bind_some])<;>first
  |(unfold D6 at h;rw [h];rfl)
  |(unfold F1 at h;rw [h];rfl)
  |(unfold Cp at h;rw [h];rfl)
  |(unfold Jy at h;rw [h];rfl)
theorem qZ {a b r:Nat} (h:D6 a b=some r):Ce P (.binOp .add t (.tmp 0) (.tmp 1) yt) ty [Ck a,Ck b] look n=some (Ck r,[]):=F2 rfl rfl (m:=Op.floatArith .add .f64 a b) rfl (Ob (op:=.add) h) rfl
theorem rQ {a b r:Nat} (h:F1 a b=some r):Ce P (.binOp .sub t (.tmp 0) (.tmp 1) yt) ty [Ck a,Ck b] look n=some (Ck r,[]):=F2 rfl rfl (m:=Op.floatArith .sub .f64 a b) rfl (Ob (op:=.sub) h) rfl
theorem Aau {a b r:Nat} (h:Cp a b=some r):Ce P (.binOp .mul t (.tmp 0) (.tmp 1) yt) ty [Ck a,Ck b] look n=some (Ck r,[]):=F2 rfl rfl (m:=Op.floatArith .mul .f64 a b) rfl (Ob (op:=.mul) h) rfl
theorem zM {a b r:Nat} (h:Jy a b=some r):Ce P (.binOp .quo t (.tmp 0) (.tmp 1) yt) ty [Ck a,Ck b] look n=some (Ck r,[]):=F2 rfl rfl (m:=Op.floatArith .quo .f64 a b) rfl (Ob (op:=.quo) h) rfl
theorem sU (a b:Nat):Ce P (.binOp .eql t (.tmp 0) (.tmp 1) yt) ty [Ck a,Ck b] look n=some (Ai (nE a b),[]):=F2 rfl rfl (m:=Op.floatCmp .eql .f64 a b) rfl rfl rfl
theorem vX (a b:Nat):Ce P (.binOp .neq t (.tmp 0) (.tmp 1) yt) ty [Ck a,Ck b] look n=some (Ai (fNe a b),[]):=F2 rfl rfl (m:=Op.floatCmp .neq .f64 a b) rfl rfl rfl
theorem Aan (a b:Nat):Ce P (.binOp .lss t (.tmp 0) (.tmp 1) yt) ty [Ck a,Ck b] look n=some (Ai (fLt a b),[]):=F2 rfl rfl (m:=Op.floatCmp .lss .f64 a b) rfl rfl rfl
theorem yO (a b:Nat):Ce P (.binOp .leq t (.tmp 0) (.tmp 1) yt) ty [Ck a,Ck b] look n=some (Ai (fLe a b),[]):=F2 rfl rfl (m:=Op.floatCmp .leq .f64 a b) rfl rfl rfl
theorem uW (a b:Nat):Ce P (.binOp .gtr t (.tmp 0) (.tmp 1) yt) ty [Ck a,Ck b] look n=some (Ai (aO a b),[]):=F2 rfl rfl (m:=Op.floatCmp .gtr .f64 a b) rfl rfl rfl
theorem xR (a b:Nat):Ce P (.binOp .geq t (.tmp 0) (.tmp 1) yt) ty [Ck a,Ck b] look n=some (Ai (fGe a b),[]):=F2 rfl rfl (m:=Op.floatCmp .geq .f64 a b) rfl rfl rfl
theorem wX (a:Nat):Ce P (.unOp .neg t (.tmp 0)) ty [Ck a] look n=some (Ck (I0 a),[]):=rfl
theorem H5 {k:IntKind} (a b:Int):Ce P (.binOp .and t (.tmp 0) (.tmp 1) yt) ty [.sc (.int k a),.sc (.int k b)] look n=some (.sc (.int k (E6 k a b)),[]):=by cases k<;>exact F2 rfl rfl (m:=Op.intBits .and _ a b) rfl rfl rfl
theorem mL {k:IntKind} (a b:Int):Ce P (.binOp .or t (.tmp 0) (.tmp 1) yt) ty [.sc (.int k a),.sc (.int k b)] look n=some (.sc (.int k (bOr k a b)),[]):=by cases k<;>exact F2 rfl rfl (m:=Op.intBits .or _ a b) rfl rfl rfl
theorem M4 {k:IntKind} (a b:Int):Ce P (.binOp .andNot t (.tmp 0) (.tmp 1) yt) ty [.sc (.int k a),.sc (.int k b)] look n=some (.sc (.int k (Ho k a b)),[]):=by cases k<;>exact F2 rfl rfl (m:=Op.intBits .andNot _ a b) rfl rfl rfl
theorem Adg {k k':IntKind} {a b r:Int} (h:Yx k a b=some r):B5 P (Op.shift .shr k a k' b)=some (.int k r):=by
 unfold Yx at h
 split at h
 ·cases h
 ·rename_i hb
  cases h
  unfold Op.shift
  rw [if_neg hb];rfl
theorem Z0 {k:IntKind} {a b r:Int} (h:Yx k a b=some r):Ce P (.binOp .shr t (.tmp 0) (.tmp 1) yt) ty [.sc (.int k a),.sc (.int k b)] look n=some (.sc (.int k r),[]):=by
 have hr:=Adg (P:=P) (k':=k) h
 cases k<;>exact F2 rfl rfl rfl hr rfl
theorem T4 {t:TypeId} {d:TypeDesc} (h:P.underlying t=some d):B5 P (underlying t)=some d:=by
 unfold underlying
 rw [C6,show B5 P program=some P from rfl,Option.bind_some]
 show B5 P (match P.underlying t with|some d=>pure d|none=>stuck "no such type")=_
 rw [h];rfl
theorem Ab8 {k:IntKind} {x:Nat} {r:Int} (h:Tu k x=some r):B5 P (Conv.floatToInt .f64 x k)=some (.int k r):=by
 unfold Tu at h
 unfold Conv.floatToInt
 split at h
 ·rename_i m hm
  split at h
  ·rename_i hb
   cases h
   simp only [hm,hb,and_self,if_true]
   rfl
  ·cases h
 ·cases h
theorem Qu {src dst:TypeId} {k:IntKind} {x:Nat} {r:Int} (h1:P.underlying src=some (.float .f64)) (h2:P.underlying dst=some (.int k)) (h:Tu k x=some r):Ce P (.convert src dst (.tmp 0)) ty [Ck x] look n=some (.sc (.int k r),[]):=by
 refine F2 (v:=.int k r) (m:=convert src dst (.float .f64 x)) ?_ rfl rfl ?_ rfl
 ·show Tj P (Io [Ck x]) look _ src dst (.tmp 0)=_
  unfold Tj
  rw [h1,h2];rfl
 ·unfold convert
  have u1:B5 P (underlying src)=some (.float .f64):=T4 h1
  have u2:B5 P (underlying dst)=some (.int k):=T4 h2
  rw [C6,u1,Option.bind_some,C6,u2,Option.bind_some]
  exact Ab8 h
theorem Ma {src dst:TypeId} {k:IntKind} {z:Int} (h1:P.underlying src=some (.int k)) (h2:P.underlying dst=some (.float .f64)):Ce P (.convert src dst (.tmp 0)) ty [.sc (.int k z)] look n=some (Ck (Kp z),[]):=by
 refine F2 (v:=.float .f64 (Kp z)) (m:=convert src dst (.int k z)) ?_ rfl rfl ?_ rfl
 ·show Tj P (Io [.sc (.int k z)]) look _ src dst (.tmp 0)=_
  unfold Tj
  rw [h1,h2];rfl
 ·unfold convert
  have u1:B5 P (underlying src)=some (.int k):=T4 h1
  have u2:B5 P (underlying dst)=some (.float .f64):=T4 h2
  rw [C6,u1,Option.bind_some,C6,u2,Option.bind_some]
  rfl
theorem Fc {gl:Nat→Option (List AV)} {m:Mem} {f:FuncId} {args:List AV} {v:AV} {k:AV→Prop} (h:bG P f args v) (hk:k v):A2 P gl m f args k:=⟨v,.inr (.inr h),hk⟩
theorem gS {f:FuncId} {fn:Func} {ex:Array Value→Sem Value} {vals:List Value} {u:Value} (hf:P.funcs[f]?=some fn) (h1:(fn.name== "runtime.NumGoroutine")=false) (h2:fn.body.isNone=true) (h3:Extern.findNext fn=none) (h4:Extern.find fn=some ex) (h5:∀w,(ex vals.toArray).run P w=.ok u w) (hu:Nx u=true):bG P f (vals.map AV.sc) (.sc u):=⟨vals,u,rfl,rfl,hu,fn,ex,hf,h1,h2,h3,h4,h5⟩
theorem pG {x r:Nat} (h:Rs x=some r) (w:World):(Extern.MathFloor.toIntegral "math.archFloor" .down #[.float .f64 x]).run P w=.ok (.float .f64 r) w:=by
 unfold Rs at h
 unfold Extern.MathFloor.toIntegral
 split at h
 ·cases h
 ·rename_i d hd
  cases h
  show ((match FloatKind.f64.decode x with
   |.nan s t=>_
   |d=>_:Sem Value).run P w)=_
  cases hq:FloatKind.f64.decode x with
  |nan s t=>exact absurd hq (hd s t)
  |number s m i=>rfl
  |infinity s=>rfl
end
end Go.Proofs.YtkdodbfnocdkdaaGreatDoor
