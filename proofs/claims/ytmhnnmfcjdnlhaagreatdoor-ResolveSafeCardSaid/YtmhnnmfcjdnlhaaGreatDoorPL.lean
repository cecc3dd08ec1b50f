/- A part. -/
import Derived.Test.YtmhnnmfcjdnlhaaGreatDoorPJ
import Derived.KernelRfl
set_option linter.unusedVariables false
set_option linter.unusedSimpArgs false
namespace Go.Proofs.YtmhnnmfcjdnlhaaGreatDoor
open Go.RowKit
abbrev Ci (x:Nat):AV:=.sc (.float .f64 x)
def Ab0:En Nat where
 size:=1
 enc x:=[Ci x]
 len _:=rfl
 pos:=by decide
 cell _:=rfl
 Di _:=rfl
 Yp _:=rfl
def yO:En Int where
 size:=1
 enc x:=[.sc (.int .u64 x)]
 len _:=rfl
 pos:=by decide
 cell _:=rfl
 Di _:=rfl
 Yp _:=rfl
theorem Ab0.nf:K4 Ab0:=by intro x c hc f l;simp only [Ab0,List.mem_singleton] at hc;subst hc;exact (fun h=>by cases h)
theorem yO.nf:K4 yO:=by intro x c hc f l;simp only [yO,List.mem_singleton] at hc;subst hc;exact (fun h=>by cases h)
def Be (a b:Nat):Option Nat:=FloatKind.f64.format.add a b
def D2 (a b:Nat):Option Nat:=FloatKind.f64.format.sub a b
def A0 (a b:Nat):Option Nat:=FloatKind.f64.format.mul a b
def I0 (a b:Nat):Option Nat:=FloatKind.f64.format.div a b
def Ng (a b:Nat):Option Ordering:=FloatKind.f64.format.order a b
def iN (a b:Nat):Bool:=Ng a b==some .eq
def fNe (a b:Nat):Bool:=Ng a b !=some .eq
def xR (a b:Nat):Bool:=Ng a b==some .lt
def pU (a b:Nat):Bool:=Ng a b==some .lt||Ng a b==some .eq
def Uz (a b:Nat):Bool:=Ng a b==some .gt
def uX (a b:Nat):Bool:=Ng a b==some .gt||Ng a b==some .eq
def Ic (a:Nat):Nat:=Op.negFloat .f64 a
def Jn (z:Int):Nat:=FloatKind.f64.nearest z
def Qd (k:IntKind) (x:Nat):Option Int:=match (FloatKind.f64.decode x).toInt .zero with
 |some n=>if k.min≤n∧n≤k.max then some n else none
 |none=>none
def Ou (x:Nat):Option Nat:=match FloatKind.f64.decode x with
 |.nan _ _=>none
 |d=>some (FloatKind.f64.encode (d.integral .down))
def E2 (k:IntKind) (x y:Int):Int:=k.wrap (BitVec.ofInt k.bits x &&& BitVec.ofInt k.bits y).toNat
def bOr (k:IntKind) (x y:Int):Int:=k.wrap (BitVec.ofInt k.bits x|||BitVec.ofInt k.bits y).toNat
def Aij (k:IntKind) (x y:Int):Int:=k.wrap (BitVec.ofInt k.bits x ^^^ BitVec.ofInt k.bits y).toNat
def G3 (k:IntKind) (x y:Int):Int:=k.wrap (BitVec.ofInt k.bits x &&& ~~~(BitVec.ofInt k.bits y)).toNat
def Vh (k:IntKind) (a b:Int):Option Int:=if b<0 then none else some (a.fdiv (2 ^ min b.toNat k.bits))
def Aid (k:IntKind) (a b:Int):Option Int:=if b<0 then none else some (k.wrap (a*2 ^ min b.toNat k.bits))
section
variable {P:Program} {look:Nat→Option B5} {t yt ty n:Nat}
theorem Ft {op:Op} {vals:List AV} {v:Value} {u:AV} {m:Sem Value} (e:Cs P op ty vals look n=Hm P (Jx vals) ⟨none,op,ty, "",#[],none⟩) (h1:(Lx op && Rt (Jx vals) op.operands.toList)=true) (h2:execOp (fun x=>(J0 (Jx vals) x).getD undef) ⟨none,op,ty, "",#[],none⟩=(m>>=fun v=>pure (Next.value v))) (hm:Cd P m=some v) (h3:Hc v=some u):Cs P op ty vals look n=some (u,[]):=by
 rw [e]
 unfold Hm
 rw [h1,cond_true,h2,Db,hm]
 show (Hc v).map (·,[])=_
 rw [h3];rfl
theorem Mm {op:BinOp} {a b r:Nat} (h:(match op with|.add=>Be a b|.sub=>D2 a b|.mul=>A0 a b|.quo=>I0 a b|_=>none)=some r):Cd P (Op.floatArith op .f64 a b)=some (.float .f64 r):=by
 cases op<;>simp only [reduceCtorEq] at h<;>(unfold Op.floatArith;simp only [Db,D3,Option.bind_some])<;>first
  |(unfold Be at h;rw [h];rfl)
  |(unfold D2 at h;rw [h];rfl)
  |(unfold A0 at h;rw [h];rfl)
  |(unfold I0 at h;rw [h];rfl)
theorem kB {a b r:Nat} (h:Be a b=some r):Cs P (.binOp .add t (.tmp 0) (.tmp 1) yt) ty [Ci a,Ci b] look n=some (Ci r,[]):=Ft rfl rfl (m:=Op.floatArith .add .f64 a b) rfl (Mm (op:=.add) h) rfl
theorem nW {a b r:Nat} (h:D2 a b=some r):Cs P (.binOp .sub t (.tmp 0) (.tmp 1) yt) ty [Ci a,Ci b] look n=some (Ci r,[]):=Ft rfl rfl (m:=Op.floatArith .sub .f64 a b) rfl (Mm (op:=.sub) h) rfl
theorem nO {a b r:Nat} (h:A0 a b=some r):Cs P (.binOp .mul t (.tmp 0) (.tmp 1) yt) ty [Ci a,Ci b] look n=some (Ci r,[]):=Ft rfl rfl (m:=Op.floatArith .mul .f64 a b) rfl (Mm (op:=.mul) h) rfl
theorem kP {a b r:Nat} (h:I0 a b=some r):Cs P (.binOp .quo t (.tmp 0) (.tmp 1) yt) ty [Ci a,Ci b] look n=some (Ci r,[]):=Ft rfl rfl (m:=Op.floatArith .quo .f64 a b) rfl (Mm (op:=.quo) h) rfl
theorem mV (a b:Nat):Cs P (.binOp .eql t (.tmp 0) (.tmp 1) yt) ty [Ci a,Ci b] look n=some (Ah (iN a b),[]):=Ft rfl rfl (m:=Op.floatCmp .eql .f64 a b) rfl rfl rfl
theorem kJ (a b:Nat):Cs P (.binOp .neq t (.tmp 0) (.tmp 1) yt) ty [Ci a,Ci b] look n=some (Ah (fNe a b),[]):=Ft rfl rfl (m:=Op.floatCmp .neq .f64 a b) rfl rfl rfl
theorem lD (a b:Nat):Cs P (.binOp .lss t (.tmp 0) (.tmp 1) yt) ty [Ci a,Ci b] look n=some (Ah (xR a b),[]):=Ft rfl rfl (m:=Op.floatCmp .lss .f64 a b) rfl rfl rfl
theorem nA (a b:Nat):Cs P (.binOp .leq t (.tmp 0) (.tmp 1) yt) ty [Ci a,Ci b] look n=some (Ah (pU a b),[]):=Ft rfl rfl (m:=Op.floatCmp .leq .f64 a b) rfl rfl rfl
theorem j7 (a b:Nat):Cs P (.binOp .gtr t (.tmp 0) (.tmp 1) yt) ty [Ci a,Ci b] look n=some (Ah (Uz a b),[]):=Ft rfl rfl (m:=Op.floatCmp .gtr .f64 a b) rfl rfl rfl
theorem lH (a b:Nat):Cs P (.binOp .geq t (.tmp 0) (.tmp 1) yt) ty [Ci a,Ci b] look n=some (Ah (uX a b),[]):=Ft rfl rfl (m:=Op.floatCmp .geq .f64 a b) rfl rfl rfl
theorem lL (a:Nat):Cs P (.unOp .neg t (.tmp 0)) ty [Ci a] look n=some (Ci (Ic a),[]):=rfl
theorem Hk {k:IntKind} (a b:Int):Cs P (.binOp .and t (.tmp 0) (.tmp 1) yt) ty [.sc (.int k a),.sc (.int k b)] look n=some (.sc (.int k (E2 k a b)),[]):=by cases k<;>exact Ft rfl rfl (m:=Op.intBits .and _ a b) rfl rfl rfl
theorem bS {k:IntKind} (a b:Int):Cs P (.binOp .or t (.tmp 0) (.tmp 1) yt) ty [.sc (.int k a),.sc (.int k b)] look n=some (.sc (.int k (bOr k a b)),[]):=by cases k<;>exact Ft rfl rfl (m:=Op.intBits .or _ a b) rfl rfl rfl
theorem Lj {k:IntKind} (a b:Int):Cs P (.binOp .andNot t (.tmp 0) (.tmp 1) yt) ty [.sc (.int k a),.sc (.int k b)] look n=some (.sc (.int k (G3 k a b)),[]):=by cases k<;>exact Ft rfl rfl (m:=Op.intBits .andNot _ a b) rfl rfl rfl
theorem pC {k k':IntKind} {a b r:Int} (h:Vh k a b=some r):Cd P (Op.shift .shr k a k' b)=some (.int k r):=by
 unfold Vh at h
 split at h
 ·cases h
 ·rename_i hb
  cases h
  unfold Op.shift
  rw [if_neg hb];rfl
theorem V3 {k:IntKind} {a b r:Int} (h:Vh k a b=some r):Cs P (.binOp .shr t (.tmp 0) (.tmp 1) yt) ty [.sc (.int k a),.sc (.int k b)] look n=some (.sc (.int k r),[]):=by
 have hr:=pC (P:=P) (k':=k) h
 cases k<;>exact Ft rfl rfl rfl hr rfl
theorem Qn {t:TypeId} {d:TypeDesc} (h:P.underlying t=some d):Cd P (underlying t)=some d:=by
 unfold underlying
 rw [Db,show Cd P program=some P from rfl,Option.bind_some]
 show Cd P (match P.underlying t with|some d=>pure d|none=>stuck "no such type")=_
 rw [h];rfl
theorem w8 {k:IntKind} {x:Nat} {r:Int} (h:Qd k x=some r):Cd P (Conv.floatToInt .f64 x k)=some (.int k r):=by
 unfold Qd at h
 unfold Conv.floatToInt
 split at h
 ·rename_i m hm
  split at h
  ·rename_i hb
   cases h
   simp only [hm,hb,and_self,if_true]
   rfl
  ·cases h
 ·cases h
theorem N9 {src dst:TypeId} {k:IntKind} {x:Nat} {r:Int} (h1:P.underlying src=some (.float .f64)) (h2:P.underlying dst=some (.int k)) (h:Qd k x=some r):Cs P (.convert src dst (.tmp 0)) ty [Ci x] look n=some (.sc (.int k r),[]):=by
 refine Ft (v:=.int k r) (m:=convert src dst (.float .f64 x)) ?_ rfl rfl ?_ rfl
 ·show P8 P (Jx [Ci x]) look _ src dst (.tmp 0)=_
  unfold P8
  rw [h1,h2];rfl
 ·unfold convert
  have u1:Cd P (underlying src)=some (.float .f64):=Qn h1
  have u2:Cd P (underlying dst)=some (.int k):=Qn h2
  rw [Db,u1,Option.bind_some,Db,u2,Option.bind_some]
  exact w8 h
theorem K0 {src dst:TypeId} {k:IntKind} {z:Int} (h1:P.underlying src=some (.int k)) (h2:P.underlying dst=some (.float .f64)):Cs P (.convert src dst (.tmp 0)) ty [.sc (.int k z)] look n=some (Ci (Jn z),[]):=by
 refine Ft (v:=.float .f64 (Jn z)) (m:=convert src dst (.int k z)) ?_ rfl rfl ?_ rfl
 ·show P8 P (Jx [.sc (.int k z)]) look _ src dst (.tmp 0)=_
  unfold P8
  rw [h1,h2];rfl
 ·unfold convert
  have u1:Cd P (underlying src)=some (.int k):=Qn h1
  have u2:Cd P (underlying dst)=some (.float .f64):=Qn h2
  rw [Db,u1,Option.bind_some,Db,u2,Option.bind_some]
  rfl
theorem E5 {gl:Nat→Option (List AV)} {m:Mem} {f:FuncId} {args:List AV} {v:AV} {k:AV→Prop} (h:Yj P f args v) (hk:k v):Bd P gl m f args k:=⟨v,.inr (.inr h),hk⟩
theorem aU {f:FuncId} {fn:Func} {ex:Array Value→Sem Value} {vals:List Value} {u:Value} (hf:P.funcs[f]?=some fn) (h1:(fn.name== "runtime.NumGoroutine")=false) (h2:fn.body.isNone=true) (h3:Extern.findNext fn=none) (h4:Extern.find fn=some ex) (h5:∀w,(ex vals.toArray).run P w=.ok u w) (hu:Of u=true):Yj P f (vals.map AV.sc) (.sc u):=⟨vals,u,rfl,rfl,hu,fn,ex,hf,h1,h2,h3,h4,h5⟩
theorem fK {x r:Nat} (h:Ou x=some r) (w:World):(Extern.MathFloor.toIntegral "math.archFloor" .down #[.float .f64 x]).run P w=.ok (.float .f64 r) w:=by
 unfold Ou at h
 unfold Extern.MathFloor.toIntegral
 split at h
 ·cases h
 ·rename_i d hd
  cases h
  show ((match FloatKind.f64.decode x with
   |.nan s t=>_
   |d=>_:Sem Value).run P w)=_
  cases hq:FloatKind.f64.decode x with
  |nan s t=>exact absurd hq (hd s t)
  |number s m i=>rfl
  |infinity s=>rfl
end
end Go.Proofs.YtmhnnmfcjdnlhaaGreatDoor
