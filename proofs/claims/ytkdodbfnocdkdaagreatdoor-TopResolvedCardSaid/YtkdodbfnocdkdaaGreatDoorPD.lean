/- A part. -/
import Derived.Test.YtkdodbfnocdkdaaGreatDoorPC
import Derived.IntWalk
set_option linter.unusedVariables false
set_option linter.unusedSimpArgs false
namespace Go.Proofs.YtkdodbfnocdkdaaGreatDoor
open Go.RowKit
section
variable {P:Program} {K:Kq}
def I5 (P:Program) (gl:Nat→Option (List AV)) (look:Nat→Option Be) (f:FuncId) (args:List AV) (v:AV):Prop:=
 E8 P f∧∀(B:Nat) (c:Cx) (vals:List Value),Good B c→Cw gl c→(∀id b,look id=some b→c.M id=some b)→Bm c args vals→Calls P f vals.toArray c.w (Qi B c v)
def Dq (P:Program) (gl:Nat→Option (List AV)) (look:Nat→Option Be) (n:Nat) (f:FuncId) (args:List AV) (v:AV) (d:Wr):Prop:=
 E8 P f∧∀(B:Nat) (c:Cx) (vals:List Value),Good B c→Cw gl c→¬c.al n→(∀id b,look id=some b→c.M id=some b)→Bm c args vals→Calls P f vals.toArray c.w (Ej B c n v d)
theorem I5.toD {gl:Nat→Option (List AV)} {look:Nat→Option Be} {n:Nat} {f:FuncId} {args:List AV} {v:AV} (h:I5 P gl look f args v):Dq P gl look n f args v []:=⟨h.1,fun B c vals g hgl hn hl hr=>(h.2 B c vals g hgl hl hr).mono fun _ _ h=>h.toD⟩
def Ci (P:Program) (gl:Nat→Option (List AV)) (f:FuncId) (args:List AV) (v:AV):Prop:=Bk args=true∧clean v=true∧I5 P gl (fun _=>none) f args v
def evalsTo (P:Program) (K:Kq) (k:Nat) (f:FuncId):Option Bool:=
 match Apo P K k f [] [] 0 with
 |some (.sc (.bool b),_,_)=>some b
 |_=>none
end
end Go.Proofs.YtkdodbfnocdkdaaGreatDoor
set_option linter.unusedVariables false
set_option linter.unusedSimpArgs false
namespace Go.Proofs.YtkdodbfnocdkdaaGreatDoor
open Go.RowKit
abbrev Mem:=List (Nat×Option Be)
def Aiy:Op→Bool
 |.alloc _=>true
 |.box _ _=>true
 |.store ..=>true
 |.buildSlice ..=>true
 |.makeSlice ..=>true
 |.call c=>match c.callee with
  |.builtin .append=>true
  |.builtin .copy=>true
  |.builtin .clear=>true
  |_=>false
 |_=>false
def Acz:Op→Bool
 |.call {callee:=.value (.func f),..}=>wcall f
 |_=>false
def Amo (o:Oper):Bool:=Aiy o.op||Acz o.op
def A4 (r:Iy) (k:AV→Prop):Prop:=match r with
 |some (v,[])=>k v
 |_=>False
def H0 (r:Iy) (k:AV→Wr→Prop):Prop:=match r with
 |some (v,d)=>k v d
 |none=>False
def spl (v:AV) (x y:Prop):Prop:=match v with
 |.sc (.bool b)=>bif b then x else y
 |_=>False
def isG (ops:Array Oper) (i:Nat):Bool:=ops.toList.any fun o=>match o.guard with
 |some (j,_)=>Nat.beq j i
 |none=>false
def J9 (g:Bool) (v:AV) (k:AV→Prop):Prop:=bif g then spl v (k (.sc (.bool true))) (k (.sc (.bool false))) else k v
def Qh (nt:Nat) (e:List (Nat×AV)) (dst:Option Nat) (v:AV) (k:List (Nat×AV)→Prop):Prop:=match Q8 nt e dst v with
 |some e=>k e
 |none=>False
def C1 (P:Program) (gl:Nat→Option (List AV)) (m:Mem) (nx:Nat) (f:FuncId) (args:List AV) (k:AV→Mem→Prop):Prop:=
 E8 P f∧∀(B:Nat) (c:Cx) (vals:List Value),Good B c→Cw gl c→(∀id,c.M id=Al m id)→(∀id,c.al id→id<nx)→Bm c args vals→Calls P f vals.toArray c.w (fun e w'=>∃v m',k v m'∧Hm B c v m' (nx+64) e w')
def A2 (P:Program) (gl:Nat→Option (List AV)) (m:Mem) (f:FuncId) (args:List AV) (k:AV→Prop):Prop:=∃v,(I5 P gl (Al m) f args v∨mF P (Al m) f args v)∧k v
def Uy (P:Program) (gl:Nat→Option (List AV)) (m:Mem) (n:Nat) (f:FuncId) (args:List AV) (k:AV→Wr→List Nat→Prop):Prop:=∃v d ft,(Dq P gl (Cy m ft) n f args v d∨(mF P (Cy m ft) f args v∧d=[]))∧k v d ft
def H7 (g:Option AV) (ar:Option (List AV)) (k:FuncId→List AV→Prop):Prop:=match g,ar with
 |some (.fn f caps),some ar=>k f (ar++caps)
 |_,_=>False
inductive jB where
 |any
 |int (k:IntKind)
 |bool
 |str
 |flt
 |agg (l:List jB)
 |Bn (l:List jB)
def tE:jB→List jB
 |.agg l=>l
 |s=>[s]
def shapeOf (P:Program):Nat→TypeId→jB
 |0,_=> .any
 |f+1,t=>match P.underlying t with
  |some (.int k)=> .int k
  |some .bool=> .bool
  |some .string=> .str
  |some (.float .f64)=> .flt
  |some (.struct fs)=> .agg (fs.toList.flatMap fun fd=>tE (shapeOf P f fd.type))
  |some (.array n e)=> .agg ((List.replicate n (tE (shapeOf P f e))).flatten)
  |some (.tuple ts)=> .Bn (ts.toList.map (shapeOf P f))
  |_=> .any
def wN:jB→jB
 |.agg l=>bif Nat.ble l.length 24 then .agg l else .any
 |s=>s
def Xm (P:Program) (t:TypeId):jB:=match shapeOf P 8 t with
 |.Bn l=> .Bn (l.map wN)
 |s=>wN s
def Agu (v:AV) (k:Int→Prop):Prop:=match v with
 |.sc (.int .i8 z)=>k z
 |_=>False
def zG (v:AV) (k:Int→Prop):Prop:=match v with
 |.sc (.int .i16 z)=>k z
 |_=>False
def zY (v:AV) (k:Int→Prop):Prop:=match v with
 |.sc (.int .i32 z)=>k z
 |_=>False
def Ag (v:AV) (k:Int→Prop):Prop:=match v with
 |.sc (.int .i64 z)=>k z
 |_=>False
def kR (v:AV) (k:Int→Prop):Prop:=match v with
 |.sc (.int .u8 z)=>k z
 |_=>False
def qE (v:AV) (k:Int→Prop):Prop:=match v with
 |.sc (.int .u16 z)=>k z
 |_=>False
def tJ (v:AV) (k:Int→Prop):Prop:=match v with
 |.sc (.int .u32 z)=>k z
 |_=>False
def D3 (v:AV) (k:Int→Prop):Prop:=match v with
 |.sc (.int .u64 z)=>k z
 |_=>False
def exK:IntKind→AV→(Int→Prop)→Prop
 |.i8,v,q=>Agu v q
 |.i16,v,q=>zG v q
 |.i32,v,q=>zY v q
 |.i64,v,q=>Ag v q
 |.u8,v,q=>kR v q
 |.u16,v,q=>qE v q
 |.u32,v,q=>tJ v q
 |.u64,v,q=>D3 v q
def Ha (v:AV) (k:Bool→Prop):Prop:=match v with
 |.sc (.bool b)=>k b
 |_=>False
def Cd (v:AV) (k:ByteArray→Prop):Prop:=match v with
 |.sc (.string s)=>k s
 |_=>False
def Hc (v:AV) (k:Nat→Prop):Prop:=match v with
 |.sc (.float .f64 x)=>k x
 |_=>False
def exL:Nat→List AV→(List AV→Prop)→Prop
 |0=>fun cs k=>match cs with
  |[]=>k []
  |_::_=>False
 |n+1=>fun cs k=>match cs with
  |[]=>False
  |x::xs=>exL n xs fun l=>k (x::l)
def Ge (n:Nat) (v:AV) (k:List AV→Prop):Prop:=match v with
 |.agg cs=>exL n cs k
 |_=>False
def O9 (n:Nat) (v:AV) (k:List AV→Prop):Prop:=match v with
 |.Bn cs=>exL n cs k
 |_=>False
def Rt (f:jB→AV→(AV→Prop)→Prop):List jB→List AV→(List AV→Prop)→Prop
 |s::ss,x::xs,k=>f s x fun y=>Rt f ss xs fun ys=>k (y::ys)
 |[],[],k=>k []
 |_,_,_=>False
def M9:Nat→jB→AV→(AV→Prop)→Prop
 |0,_,v,k=>k v
 |_+1,.any,v,k=>k v
 |_+1,.int ik,v,k=>exK ik v fun z=>k (.sc (.int ik z))
 |_+1,.bool,v,k=>Ha v fun b=>k (.sc (.bool b))
 |_+1,.str,v,k=>Cd v fun s=>k (.sc (.string s))
 |_+1,.flt,v,k=>Hc v fun x=>k (.sc (.float .f64 x))
 |f+1,.agg l,v,k=>Ge l.length v fun cs=>Rt (M9 f) l cs fun cs=>k (.agg cs)
 |f+1,.Bn l,v,k=>O9 l.length v fun cs=>Rt (M9 f) l cs fun cs=>k (.Bn cs)
def H8 (P:Program) (o:Oper):jB:=match o.op with
 |.load t _=>Xm P t
 |.call _=>Xm P o.type
 |.convert _ d _=>Xm P d
 |.index ..=>Xm P o.type
 |.field ..=>Xm P o.type
 |.unOp _ t _=>Xm P t
 |.binOp op t _ _ _=>(match op with
  |.eql=> .bool
  |.neq=> .bool
  |.lss=> .bool
  |.leq=> .bool
  |.gtr=> .bool
  |.geq=> .bool
  |_=>Xm P t)
 |_=> .any
theorem mT {ik:IntKind} {v:AV} {k:AV→Prop} (h:exK ik v fun z=>k (.sc (.int ik z))):k v:=by
 cases ik<;>(simp only [exK,Agu,zG,zY,Ag,kR,qE,tJ,D3] at h;split at h;(exact h);(exact h.elim))
theorem Vv:∀{n:Nat} {cs:List AV} {k:List AV→Prop},exL n cs k→k cs
 |0,[],k,h=>h
 |n+1,x::xs,k,h=>Vv (n:=n) (cs:=xs) (k:=fun l=>k (x::l)) h
 |0,_::_,k,h=>by simp [exL] at h
 |_+1,[],k,h=>by simp [exL] at h
theorem Ml {f:jB→AV→(AV→Prop)→Prop} (hf:∀s v k,f s v k→k v):∀{ss:List jB} {cs:List AV} {k:List AV→Prop},Rt f ss cs k→k cs
 |s::ss,x::xs,k,h=>Ml hf (ss:=ss) (cs:=xs) (k:=fun ys=>k (x::ys)) (hf s x _ h)
 |[],[],k,h=>h
 |[],_::_,k,h=>by simp [Rt] at h
 |_::_,[],k,h=>by simp [Rt] at h
theorem Le:∀(f:Nat) (s:jB) (v:AV) (k:AV→Prop),M9 f s v k→k v
 |0,_,v,k,h=>h
 |_+1,.any,v,k,h=>h
 |_+1,.int ik,v,k,h=>mT h
 |_+1,.bool,v,k,h=>by
  simp only [M9,Ha] at h
  split at h
  ·exact h
  ·exact h.elim
 |_+1,.str,v,k,h=>by
  simp only [M9,Cd] at h
  split at h
  ·exact h
  ·exact h.elim
 |_+1,.flt,v,k,h=>by
  simp only [M9,Hc] at h
  split at h
  ·exact h
  ·exact h.elim
 |f+1,.agg l,v,k,h=>by
  simp only [M9,Ge] at h
  split at h
  ·exact Ml (Le f) (Vv h)
  ·exact h.elim
 |f+1,.Bn l,v,k,h=>by
  simp only [M9,O9] at h
  split at h
  ·exact Ml (Le f) (Vv h)
  ·exact h.elim
def Ad (m:Mem):Wr→Mem
 |[]=>m
 |p::r=>Ad (p::m) r
theorem Nu (d:Wr):∀(m:Mem) (id:Nat),Al (Ad m d) id=Wn (Al m) d id:=by
 induction d with
 |nil=>intro m id;rfl
 |cons p r ih=>
  obtain ⟨i,v⟩:=p
  intro m id
  unfold Ad Wn
  rw [ih]
  congr 1
  funext k
  show (bif Nat.beq i k then v else Al m k)=_
  cases h:Nat.beq i k with
  |true=>simp [beq_true h]
  |false=>have:=beq_false h;simp only [cond_false];rw [if_neg (fun e=>this e.symm)]
def Ic (b:Bool) (p:Prop):Prop:=bif b then p else False
def Y4:List AV→Prop→Prop
 |[],p=>p
 |x::r,p=>Ic (Cl x) (Y4 r p)
def Nl (P:Program) (t:TypeId) (x:AV) (k:List AV→Prop):Prop:=match P.underlying t with
 |some d=>bif Hh d then (match x,Df P t with
   |.agg cs,some n=>Ic (Nat.beq cs.length n) (Y4 cs (k cs))
   |_,_=>False) else (match Df P t with
   |some 1=>Ic (Cl x) (k [x])
   |_=>False)
 |none=>False
def B4 (P:Program) (look:Nat→Option Be) (t:TypeId) (a x:AV) (k:AV→Wr→Prop):Prop:=match a with
 |.ptr id off=>(match look id with
  |some b=>Nl P t x fun cs=>Ic (Nat.ble (off+cs.length) b.cells.length) (k .Es [(id,some ⟨Dh b.cells off cs,b.ty⟩)])
  |none=>False)
 |_=>False
def Air (P:Program) (t:TypeId) (n:Nat) (x:AV) (k:AV→Wr→Prop):Prop:=Nl P t x fun cs=>k (.ptr n 0) [(n,some ⟨cs,t⟩)]
section
variable (P:Program) (K:Kq) (nt:Nat) (ops:Array Oper)
def Ve (x:AV) (k:Bool→Prop):Prop:=match x with
 |.Bg=>k true
 |.Ec _ cs _=>(match cs with
  |[]=>∀b,k b
  |_::_=>k false)
 |.sl ..=>k false
 |_=>False
def Sm:Operand→Bool
 |.const (.slice none 0 0)=>true
 |_=>false
def Xj (P:Program) (t:TypeId):Bool:=match P.underlying t with
 |some (.slice _)=>true
 |_=>false
def opW (s:St) (o:Oper) (k:AV→Mem→Nat→Prop):Prop:=
 match o.op with
 |.call {callee:=.value g,args,..}=>H7 (Jc K.gl s.e g) (opts (Jc K.gl s.e) args.toList) fun f ar=>bif K.pm f then A2 P K.gl s.m f ar (fun v=>k v s.m (s.nx+64)) else C1 P K.gl s.m s.nx f ar (fun v m=>k v m (s.nx+64))
 |.store t a x=>(match Jc K.gl s.e a,Jc K.gl s.e x with
  |some a,some x=>B4 P (Al s.m) t a x fun v d=>k v (Ad s.m d) (s.nx+1)
  |_,_=>False)
 |.box t x=>(match Jc K.gl s.e x with
  |some x=>Air P t s.nx x fun v d=>k v (Ad s.m d) (s.nx+1)
  |none=>False)
 |.binOp .eql t x y _=>bif Xj P t && Sm y then (match Jc K.gl s.e x with
   |some x=>Ve x fun b=>k (.sc (.bool b)) s.m (s.nx+1)
   |none=>False) else A4 (Pz P (Jc K.gl s.e) (Al s.m) s.nx o) fun v=>k v s.m (s.nx+1)
 |.binOp .neq t x y _=>bif Xj P t && Sm y then (match Jc K.gl s.e x with
   |some x=>Ve x fun b=>k (.sc (.bool (!b))) s.m (s.nx+1)
   |none=>False) else A4 (Pz P (Jc K.gl s.e) (Al s.m) s.nx o) fun v=>k v s.m (s.nx+1)
 |op=>bif Aiy op then H0 (Pz P (Jc K.gl s.e) (Al s.m) s.nx o) fun v d=>k v (Ad s.m d) (s.nx+1) else A4 (Pz P (Jc K.gl s.e) (Al s.m) s.nx o) fun v=>k v s.m (s.nx+1)
def opQ (s:St) (o:Oper) (k:AV→Prop):Prop:=
 match o.op with
 |.call {callee:=.value g,args,..}=>H7 (Jc K.gl s.e g) (opts (Jc K.gl s.e) args.toList) fun f ar=>A2 P K.gl s.m f ar k
 |_=>A4 (Pz P (Jc K.gl s.e) (Al s.m) s.nx o) k
def opF (s:St) (o:Oper) (k:AV→Wr→List Nat→Prop):Prop:=
 match o.op with
 |.call {callee:=.value g,args,..}=>H7 (Jc K.gl s.e g) (opts (Jc K.gl s.e) args.toList) fun f ar=>Uy P K.gl s.m s.nx f ar k
 |.store t a x=>(match Jc K.gl s.e a,Jc K.gl s.e x with
  |some a,some x=>B4 P (Cy s.m (Xq (Jc K.gl s.e) o)) t a x fun v d=>k v d (Xq (Jc K.gl s.e) o)
  |_,_=>False)
 |.box t x=>(match Jc K.gl s.e x with
  |some x=>Air P t s.nx x fun v d=>k v d (Xq (Jc K.gl s.e) o)
  |none=>False)
 |_=>H0 (Pz P (Jc K.gl s.e) (Cy s.m (Xq (Jc K.gl s.e) o)) s.nx o) fun v d=>k v d (Xq (Jc K.gl s.e) o)
def WS:List Oper→Nat→St→(St→Prop)→Prop
 |[],_,s,Q=>Q s
 |o::r,i,s,Q=>match Ir ops s.e o with
  |some true=>opW P K s o fun v m nx=>M9 4 (H8 P o) v fun v=>J9 (isG ops i) v fun v=>Qh nt s.e o.dst v fun e=>WS r (i+1) ⟨e,m,nx⟩ Q
  |some false=>Qh nt s.e o.dst (.Bn []) fun e=>WS r (i+1) ⟨e,s.m,s.nx⟩ Q
  |none=>False
def WQ:List Oper→Nat→St→(St→Prop)→Prop
 |[],_,s,Q=>Q s
 |o::r,i,s,Q=>match Ir ops s.e o with
  |some true=>opQ P K s o fun v=>M9 4 (H8 P o) v fun v=>J9 (isG ops i) v fun v=>Qh nt s.e o.dst v fun e=>WQ r (i+1) ⟨e,s.m,s.nx+1⟩ Q
  |some false=>Qh nt s.e o.dst (.Bn []) fun e=>WQ r (i+1) ⟨e,s.m,s.nx+1⟩ Q
  |none=>False
def WF (ms:List Nat):List Oper→Nat→St→List Rec→(St→Prop)→Prop
 |[],_,s,rs,Q=>Ic (E3 ms rs) (Q s)
 |o::r,i,s,rs,Q=>match Ir ops s.e o with
  |some true=>opF P K s o fun v d ft=>M9 4 (H8 P o) v fun v=>J9 (isG ops i) v fun v=>Qh nt s.e o.dst v fun e=>WF ms r (i+1) ⟨e,Ad s.m d,s.nx+1⟩ (rs++[⟨d,ft⟩]) Q
  |some false=>Qh nt s.e o.dst (.Bn []) fun e=>WF ms r (i+1) ⟨e,s.m,s.nx+1⟩ (rs++[⟨[],[]⟩]) Q
  |none=>False
def WR (draw:Bool) (s:St) (Q:St→Prop):Prop:=
 bif draw then Ic (Yu ops (Gw ops.toList [])) (bif ops.toList.any Amo then WF P K nt ops (Gw ops.toList []) ops.toList 0 s [] Q else WQ P K nt ops ops.toList 0 s Q)
 else WS P K nt ops ops.toList 0 s Q
end
def W (P:Program) (K:Kq) (nt n0:Nat):Code→St→(A1→St→Prop)→Prop
 |.skip,s,Q=>Q .normal s
 |.region _ ops d,s,Q=>WR P K nt ops d s (Q .normal)
 |.seq a b,s,Q=>W P K nt n0 a s (Dw (fun s'=>W P K nt n0 b s' Q) Q)
 |.cond c a b,s,Q=>match Jc K.gl s.e c with
  |some v=>spl v (W P K nt n0 a s Q) (W P K nt n0 b s Q)
  |none=>False
 |.block id b,s,Q=>W P K nt n0 b s (V5 id Q)
 |.loop b,s,Q=>Ff P K nt n0 (.loop b) s Q
 |.exit id,s,Q=>Q (.exit id) s
 |.ret,s,Q=>Q .ret s
 |.label _,s,Q=>Q .normal s
 |_,_,_=>False
section
variable {P:Program} {K:Kq} {nt n0:Nat} {ops:Array Oper}
theorem Qf {r:Iy} {k:AV→Prop} (h:A4 r k):∃v,r=some (v,[])∧k v:=by
 unfold A4 at h
 split at h
 ·exact ⟨_,rfl,h⟩
 ·exact h.elim
theorem cH {r:Iy} {k:AV→Wr→Prop} (h:H0 r k):∃v d,r=some (v,d)∧k v d:=by
 unfold H0 at h
 split at h
 ·exact ⟨_,_,rfl,h⟩
 ·exact h.elim
theorem cA {v:AV} {x y:Prop} (h:spl v x y):∃b,v=.sc (.bool b)∧(b=true→x)∧(b=false→y):=by
 unfold spl at h
 split at h
 ·rename_i b
  refine ⟨b,rfl,?_,?_⟩
  ·rintro rfl;exact h
  ·rintro rfl;exact h
 ·exact h.elim
theorem Mz {g:Bool} {v:AV} {k:AV→Prop} (h:J9 g v k):k v:=by
 unfold J9 at h
 cases g with
 |false=>exact h
 |true=>
  obtain ⟨b,rfl,h1,h2⟩:=cA h
  cases b with
  |true=>exact h1 rfl
  |false=>exact h2 rfl
theorem Jh {nt:Nat} {e:List (Nat×AV)} {dst:Option Nat} {v:AV} {k:List (Nat×AV)→Prop} (h:Qh nt e dst v k):∃e',Q8 nt e dst v=some e'∧k e':=by
 unfold Qh at h
 split at h
 ·rename_i e' he;exact ⟨e',he,h⟩
 ·exact h.elim
theorem U8 {b:Bool} {p:Prop} (h:Ic b p):b=true∧p:=by
 unfold Ic at h
 cases b with
 |true=>exact ⟨rfl,h⟩
 |false=>exact h.elim
theorem Ny {g:Option AV} {ar:Option (List AV)} {k:FuncId→List AV→Prop} (h:H7 g ar k):∃f caps l,g=some (.fn f caps)∧ar=some l∧k f (l++caps):=by
 unfold H7 at h
 split at h
 ·exact ⟨_,_,_,rfl,rfl,h⟩
 ·exact h.elim
theorem Ou {b:Bool} {p:Prop} (h:Ic b p):b=true∧p:=by
 unfold Ic at h
 cases b with
 |true=>exact ⟨rfl,h⟩
 |false=>exact h.elim
theorem S9:∀{cs:List AV} {p:Prop},Y4 cs p→cs.all Cl=true∧p
 |[],p,h=>⟨rfl,h⟩
 |x::r,p,h=>by
  obtain ⟨h1,h2⟩:=Ou h
  obtain ⟨h3,h4⟩:=S9 h2
  exact ⟨by simp [h1,h3],h4⟩
theorem Tn {t:TypeId} {x:AV} {k:List AV→Prop} (h:Nl P t x k):∃cs n,C4 x=some cs∧Df P t=some n∧cs.length=n∧cs.all Cl=true∧k cs:=by
 unfold Nl at h
 split at h
 ·rename_i d hd
  cases hg:Hh d with
  |true=>
   rw [hg] at h
   simp only [cond_true] at h
   split at h
   ·rename_i cs n hn
    obtain ⟨h1,h2⟩:=Ou h
    obtain ⟨h3,h4⟩:=S9 h2
    exact ⟨cs,n,rfl,hn,Nat.eq_of_beq_eq_true h1,h3,h4⟩
   ·exact h.elim
  |false=>
   rw [hg] at h
   simp only [cond_false] at h
   split at h
   ·rename_i hn
    obtain ⟨h1,h2⟩:=Ou h
    refine ⟨[x],1,?_,hn,rfl,by simp [h1],h2⟩
    cases x<;>simp [Cl] at h1<;>rfl
   ·exact h.elim
 ·exact h.elim
theorem Tq {look:Nat→Option Be} {t:TypeId} {a x:AV} {k:AV→Wr→Prop} (h:B4 P look t a x k):∃v d,V3 P look t a x=some (v,d)∧k v d:=by
 unfold B4 at h
 split at h
 ·rename_i id off
  split at h
  ·rename_i b hb
   obtain ⟨cs,n,h1,h2,h3,h4,h5⟩:=Tn h
   obtain ⟨h6,h7⟩:=Ou h5
   refine ⟨_,_,?_,h7⟩
   have h3':Nat.beq cs.length n=true:=by rw [h3];exact Nat.beq_refl n
   unfold V3
   simp only [h1,h2,hb,h3',h6,h4,Bool.true_or,Bool.and_self,cond_true]
  ·exact h.elim
 ·exact h.elim
theorem Yg {t:TypeId} {n:Nat} {x:AV} {k:AV→Wr→Prop} (h:Air P t n x k):∃cs,C4 x=some cs∧k (.ptr n 0) [(n,some ⟨cs,t⟩)]:=by
 obtain ⟨cs,m,h1,h2,h3,h4,h5⟩:=Tn h
 exact ⟨cs,h1,h5⟩
theorem Xd {c:Cx} {x:AV} {k:Bool→Prop} (h:Ve x k) {v:Value} (r:Bo c x v):∃a n cap,v=.slice a n cap∧k a.isNone:=by
 unfold Ve at h
 split at h
 ·cases r;exact ⟨none,0,0,rfl,h⟩
 ·split at h
  ·cases r with
   |Gd a cap ex he hm hn=>exact ⟨a,0,cap,rfl,h _⟩
   |Ec hb hr hc hn he hm=>exact ⟨_,_,_,rfl,h _⟩
  ·cases r with
   |Ec hb hr hc hn he hm=>exact ⟨_,_,_,rfl,h⟩
 ·cases r;exact ⟨_,_,_,rfl,h⟩
 ·exact h.elim
theorem Xc {y:Operand} (h:Sm y=true):y=.const (.slice none 0 0):=by
 unfold Sm at h
 split at h
 ·rfl
 ·cases h
theorem fU {t:TypeId} (h:Xj P t=true):∃e,P.underlying t=some (.slice e):=by
 unfold Xj at h
 split at h
 ·rename_i e he;exact ⟨e,he⟩
 ·cases h
theorem vN {R:St→Prop} {B:Nat} {c0:Cx} (hn:∀id,c0.al id→id<n0):∀(rest pre:List Oper) {s:St} {c:Cx} {a:Act},ops.toList=pre++rest→WS P K nt ops rest pre.length s R→SR K.gl B nt c s a→Step c0 c→
  wpOps P ops (Ya K nt B c0 (fun x s=>x=.normal∧R s)) (List.range' pre.length rest.length) a c.w
 |[],pre,s,c,a,hops,h,sr,st=>⟨.normal,s,c,rfl,⟨rfl,h⟩,sr,rfl,st⟩
 |o::r,pre,s,c,a,hops,h,sr,st=>by
  have hget:ops[pre.length]?=some o:=by rw [← Array.getElem?_toList,hops];simp
  have hops':ops.toList=(pre++[o])++r:=by rw [hops];simp
  simp only [List.length_cons,List.range'_succ]
  unfold wpOps
  simp only [hget]
  unfold WS at h
  split at h
  ·rename_i hw
   rw [Lk (fun t _ _ _ _=>sr.e t) hw]
   simp only [if_true]
   left
   have fin:∀(c1:Cx) (v:AV) (v':Value) (m':Mem) (nx':Nat),(M9 4 (H8 P o) v fun v=>J9 (isG ops pre.length) v fun v=>Qh nt s.e o.dst v fun e=>WS P K nt ops r (pre.length+1) ⟨e,m',nx'⟩ R)→Bo c1 v v'→Step c c1→Good B c1→(∀id,c1.M id=Al m' id)→(∀id,c1.al id→id<nx')→wpOps P ops (Ya K nt B c0 (fun x s=>x=.normal∧R s)) (List.range' (pre.length+1) r.length) (a.put o.dst v') c1.w:=by
    intro c1 v v' m' nx' hk k1 k2 k3 k4 k5
    obtain ⟨e',hput,hrest⟩:=Jh (Mz (Le 4 _ _ _ hk))
    have sr1:SR K.gl B nt c1 ⟨e',m',nx'⟩ (a.put o.dst v'):=⟨k3,Rf hput sr.sz (fun t=>(sr.e t).step k2) k1,k4,k5,Mm.trans sr.sz,put_defers.trans sr.df,sr.gl.step k2⟩
    have:=vN hn r (pre++[o]) hops' (by simpa using hrest) sr1 (st.trans k2)
    simpa using this
   have plain:∀(v:AV) (d:Wr),Pz P (Jc K.gl s.e) (Al s.m) s.nx o=some (v,d)→(M9 4 (H8 P o) v fun v=>J9 (isG ops pre.length) v fun v=>Qh nt s.e o.dst v fun e=>WS P K nt ops r (pre.length+1) ⟨e,Ad s.m d,s.nx+1⟩ R)→o.wp P a c.w (wpOps P ops (Ya K nt B c0 (fun x s=>x=.normal∧R s)) (List.range' (pre.length+1) r.length)) (Ya K nt B c0 (fun x s=>x=.normal∧R s)):=by
    intro v d ha hk
    refine Fi.Pz ha B c a _ _ sr.g sr.gl (fun h=>Nat.lt_irrefl _ (sr.al _ h)) (fun id b h=>by rw [sr.m];exact h) (fun x _ y hy=>H4 sr.gl (fun t _=>sr.e t) hy) ?_
    intro c1 v' k1 k2 k3 k4 k5 k6
    exact fin c1 v v' _ _ hk k1 k2 k3 (fun id=>by rw [k4,Nu];exact Rp d sr.m id) (fun id h=>by
     rcases k5 id h with h|rfl
     ·exact Nat.lt_succ_of_lt (sr.al id h)
     ·exact Nat.lt_succ_self _)
   unfold opW at h
   split at h
   ·rename_i gg args ats ho
    obtain ⟨f,caps,l,h1,h2,h3⟩:=Ny h
    have hcw:C1 P K.gl s.m s.nx f (l++caps) (fun v m=>M9 4 (H8 P o) v fun v=>J9 (isG ops pre.length) v fun v=>Qh nt s.e o.dst v fun e=>WS P K nt ops r (pre.length+1) ⟨e,m,s.nx+64⟩ R)∨∃v,mF P (Al s.m) f (l++caps) v∧M9 4 (H8 P o) v fun v=>J9 (isG ops pre.length) v fun v=>Qh nt s.e o.dst v fun e=>WS P K nt ops r (pre.length+1) ⟨e,s.m,s.nx+64⟩ R:=by
     cases hpm:K.pm f with
     |false=>rw [hpm] at h3;exact .inl h3
     |true=>
      rw [hpm] at h3
      obtain ⟨v,hpo,hk⟩:=h3
      rcases hpo with ⟨hp,hc⟩|hod
      ·exact .inl ⟨hp,fun B c vals g hgl hM ha hr=>(hc B c vals g hgl (fun id b hb=>by rw [hM];exact hb) hr).mono fun e w' ⟨v',c',h1,h2,h3,h4,h5,h6,h7⟩=>
        ⟨v,s.m,hk,v',c',h1,h2,h3,h4,h5,fun id=>by rw [h6,hM],fun id h=>by have:=ha id ((h7 id).1 h);omega⟩⟩
      ·exact .inr ⟨v,hod,hk⟩
    rcases hcw with ⟨hp,hc⟩|⟨v,hod,hk⟩
    ·have hg:=H4 (c:=c) (a:=a) sr.gl (fun t _=>sr.e t) h1
     generalize hgv:a.eval gg=u at hg
     cases hg with
     |fn f hcaps=>
      have hargs:=K7 (c:=c) (ev:=a.eval) (fun x _ y hy=>H4 sr.gl (fun t _=>sr.e t) hy) h2
      refine Zk ho hgv hp (hc B c _ sr.g sr.gl sr.m sr.al (hargs.append hcaps)) ?_
      rintro e2 w' ⟨v,m',hk,v',c',rfl,rfl,k1,k2,k3,k4,k5⟩
      exact ⟨v',rfl,fin c' v v' m' _ hk k1 k2 k3 k4 k5⟩
    ·refine Fi.over ho h1 h2 hod B c a _ _ sr.g sr.gl (fun h=>Nat.lt_irrefl _ (sr.al _ h)) (fun id b h=>by rw [sr.m];exact h) (fun x _ y hy=>H4 sr.gl (fun t _=>sr.e t) hy) ?_
     intro c1 v' k1 k2 k3 k4 k5 k6
     exact fin c1 v v' s.m (s.nx+64) hk k1 k2 k3 (fun id=>by rw [k4];exact sr.m id) (fun id h=>by
      rcases k5 id h with h|rfl
      ·have:=sr.al id h;omega
      ·omega)
   ·rename_i t x y ho
    split at h
    ·rename_i a1 x1 h1 h2
     obtain ⟨v,d,hs,hk⟩:=Tq h
     exact plain v d (by simp only [Pz,ho,h1,h2,hs]) hk
    ·exact h.elim
   ·rename_i t x ho
    split at h
    ·rename_i x1 h1
     obtain ⟨cs,hs,hk⟩:=Yg h
     exact plain _ _ (by simp only [Pz,ho,h1,Option.bind_some,hs]) hk
    ·exact h.elim
   ·rename_i t x y yt ho
    cases hq:(Xj P t && Sm y) with
    |false=>
     rw [hq] at h
     obtain ⟨v,ha,hk⟩:=Qf h
     exact plain v [] ha hk
    |true=>
     rw [hq] at h
     simp only [Bool.and_eq_true] at hq
     obtain ⟨e0,hu⟩:=fU hq.1
     have hy:=Xc hq.2
     subst hy
     simp only [cond_true] at h
     split at h
     ·rename_i x1 h1
      have hx:=H4 (c:=c) (a:=a) sr.gl (fun t _=>sr.e t) h1
      obtain ⟨a1,n1,cap1,hv,hk⟩:=Xd h hx
      have hrun:(execOp a.eval o).run P c.w=.ok (.value (.bool a1.isNone)) c.w:=by
       have e1:a.eval (.const (.slice none 0 0))=.slice none 0 0:=rfl
       have e2:=I8 (P:=P) hu (a:=a1) (b:=none) (k:=n1) (q:=cap1) (k':=0) (q':=0) (.inr rfl) c.w
       simp only [Option.isNone_none,Bool.and_true] at e2
       simp [execOp,ho,hv,e1,eqGuard,binOp,e2]
      unfold Oper.wp
      rw [hrun]
      exact fin (c.tick s.nx) _ _ _ _ hk (.sc _ rfl) (Ig c _) (Oe sr.g _) sr.m (fun id h=>by
       rcases h with h|rfl
       ·exact Nat.lt_succ_of_lt (sr.al id h)
       ·exact Nat.lt_succ_self _)
     ·exact h.elim
   ·rename_i t x y yt ho
    cases hq:(Xj P t && Sm y) with
    |false=>
     rw [hq] at h
     obtain ⟨v,ha,hk⟩:=Qf h
     exact plain v [] ha hk
    |true=>
     rw [hq] at h
     simp only [Bool.and_eq_true] at hq
     obtain ⟨e0,hu⟩:=fU hq.1
     have hy:=Xc hq.2
     subst hy
     simp only [cond_true] at h
     split at h
     ·rename_i x1 h1
      have hx:=H4 (c:=c) (a:=a) sr.gl (fun t _=>sr.e t) h1
      obtain ⟨a1,n1,cap1,hv,hk⟩:=Xd h hx
      have hrun:(execOp a.eval o).run P c.w=.ok (.value (.bool (!a1.isNone))) c.w:=by
       have e1:a.eval (.const (.slice none 0 0))=.slice none 0 0:=rfl
       have e2:=I8 (P:=P) hu (a:=a1) (b:=none) (k:=n1) (q:=cap1) (k':=0) (q':=0) (.inr rfl) c.w
       simp only [Option.isNone_none,Bool.and_true] at e2
       simp [execOp,ho,hv,e1,eqGuard,binOp,e2]
      unfold Oper.wp
      rw [hrun]
      exact fin (c.tick s.nx) _ _ _ _ hk (.sc _ rfl) (Ig c _) (Oe sr.g _) sr.m (fun id h=>by
       rcases h with h|rfl
       ·exact Nat.lt_succ_of_lt (sr.al id h)
       ·exact Nat.lt_succ_self _)
     ·exact h.elim
   ·cases hwr:Aiy o.op with
    |true=>
     rw [hwr] at h
     obtain ⟨v,d,ha,hk⟩:=cH h
     exact plain v d ha hk
    |false=>
     rw [hwr] at h
     obtain ⟨v,ha,hk⟩:=Qf h
     exact plain v [] ha hk
  ·rename_i hw
   rw [Lk (fun t _ _ _ _=>sr.e t) hw]
   simp only [Bool.false_eq_true,if_false]
   obtain ⟨e',hput,hrest⟩:=Jh h
   have sr1:SR K.gl B nt c ⟨e',s.m,s.nx⟩ (a.put o.dst undef):=⟨sr.g,Rf hput sr.sz sr.e (.Bn .nil),sr.m,sr.al,Mm.trans sr.sz,put_defers.trans sr.df,sr.gl⟩
   have:=vN hn r (pre++[o]) hops' (by simpa using hrest) sr1 st
   simpa using this
  ·exact h.elim
def Trace (P:Program) (K:Kq) (nt:Nat) (ops:Array Oper) (l:List Oper) (s s':St) (rs rs':List Rec):Prop:=
 ∃(S:Nat→St) (v:Nat→AV) (rc:Nat→Rec) (l':List Rec),S 0=s∧S l.length=s'∧rs'=rs++l'∧l'.length=l.length∧(∀i,i<l.length→l'[i]?=some (rc i))∧∀i o,l[i]?=some o→Stp P K nt ops o (S i) (S (i+1)) (v i) (rc i)
theorem Trace.nil {s:St} {rs:List Rec}:Trace P K nt ops [] s s rs rs:=⟨fun _=>s,fun _=> .Es,fun _=>⟨[],[]⟩,[],rfl,rfl,by simp,rfl,fun i hi=>by simp at hi,fun i o h=>by simp at h⟩
theorem Trace.cons {o:Oper} {r:List Oper} {s s1 s':St} {rs rs':List Rec} {v0:AV} {r0:Rec} (hst:Stp P K nt ops o s s1 v0 r0) (h:Trace P K nt ops r s1 s' (rs++[r0]) rs'):Trace P K nt ops (o::r) s s' rs rs':=by
 obtain ⟨S,v,rc,l',h1,h2,h3,h4,h5,h6⟩:=h
 refine ⟨fun i=>match i with|0=>s|i+1=>S i,fun i=>match i with|0=>v0|i+1=>v i,fun i=>match i with|0=>r0|i+1=>rc i,r0::l',rfl,by simpa using h2,by rw [h3];simp,by simp [h4],fun i hi=> ?_,fun i o' ho=> ?_⟩
 ·cases i with
  |zero=>rfl
  |succ i=>simpa using h5 i (by simpa using hi)
 ·cases i with
  |zero=>
   simp only [List.getElem?_cons_zero,Option.some.injEq] at ho
   subst ho
   show Stp P K nt ops o s (S 0) v0 r0
   rw [h1];exact hst
  |succ i=>exact h6 i o' (by simpa using ho)
theorem dI {m:Mem} {id:Nat} {b:Be} (h:Al m id=some b):id∈m.map (·.1):=by
 induction m with
 |nil=>simp [Al] at h
 |cons p r ih=>
  obtain ⟨j,v⟩:=p
  unfold Al at h
  cases hj:Nat.beq j id with
  |true=>simp [beq_true hj]
  |false=>rw [hj] at h;simp [ih h]
theorem tF (m:Mem):Cy m (m.map (·.1))=Al m:=by
 funext id
 unfold Cy
 cases h:(m.map (·.1)).contains id with
 |true=>rfl
 |false=>
  simp only [cond_false]
  cases hm:Al m id with
  |none=>rfl
  |some b=>have:=dI hm;simp at h;simp at this;exact absurd this (by simpa using h)
theorem Vp {R:St→Prop}:∀(l:List Oper) (i:Nat) {s:St} (rs:List Rec),WQ P K nt ops l i s R→∃s' rs',R s'∧Trace P K nt ops l s s' rs rs'∧∀q∈rs',q∈rs∨q.d=[]
 |[],i,s,rs,h=>⟨s,rs,h,.nil,fun q hq=> .inl hq⟩
 |o::r,i,s,rs,h=>by
  unfold WQ at h
  split at h
  ·rename_i hw
   have fin:∀v:AV,Fi P K.gl s.e (Al s.m) s.nx o v []→(M9 4 (H8 P o) v fun v=>J9 (isG ops i) v fun v=>Qh nt s.e o.dst v fun e=>WQ P K nt ops r (i+1) ⟨e,s.m,s.nx+1⟩ R)→∃s' rs',R s'∧Trace P K nt ops (o::r) s s' rs rs'∧∀q∈rs',q∈rs∨q.d=[]:=by
    intro v ho hk
    obtain ⟨e',hput,hrest⟩:=Jh (Mz (Le 4 _ _ _ hk))
    obtain ⟨s',rs',h1,h2,h3⟩:=Vp r (i+1) (rs++[⟨[],s.m.map (·.1)⟩]) hrest
    refine ⟨s',rs',h1,.cons ⟨.inl ⟨hw,by rw [tF];exact ho⟩,hput,fun _=>rfl,rfl⟩ h2,fun q hq=> ?_⟩
    rcases h3 q hq with h|h
    ·rcases List.mem_append.1 h with h|h
     ·exact .inl h
     ·simp at h;exact .inr (by rw [h])
    ·exact .inr h
   unfold opQ at h
   split at h
   ·rename_i gg args ats ho
    obtain ⟨f,caps,l,h1,h2,v,hpc,hk⟩:=Ny h
    rcases hpc with ⟨hp,hc⟩|hpo
    ·exact fin v (Fi.pure ho h1 h2 hp fun B c vals g hgl hn hl hr=>(hc B c vals g hgl hl hr).mono fun _ _ h=>h.toD) hk
    ·exact fin v (Fi.over ho h1 h2 hpo) hk
   ·obtain ⟨v,ha,hk⟩:=Qf h
    exact fin v (Fi.Pz ha) hk
  ·rename_i hw
   obtain ⟨e',hput,hrest⟩:=Jh h
   obtain ⟨s',rs',h1,h2,h3⟩:=Vp r (i+1) (rs++[⟨[],[]⟩]) hrest
   refine ⟨s',rs',h1,.cons (s1:=⟨e',s.m,s.nx+1⟩) (r0:=⟨[],[]⟩) ⟨.inr ⟨hw,rfl,rfl⟩,hput,fun _=>rfl,rfl⟩ h2,fun q hq=> ?_⟩
   rcases h3 q hq with h|h
   ·rcases List.mem_append.1 h with h|h
    ·exact .inl h
    ·simp at h;exact .inr (by rw [h])
   ·exact .inr h
  ·exact h.elim
theorem U0 {ms:List Nat} {R:St→Prop}:∀(l:List Oper) (i:Nat) {s:St} (rs:List Rec),WF P K nt ops ms l i s rs R→∃s' rs',R s'∧Trace P K nt ops l s s' rs rs'∧E3 ms rs'=true
 |[],i,s,rs,h=>by
  obtain ⟨h1,h2⟩:=U8 h
  exact ⟨s,rs,h2,.nil,h1⟩
 |o::r,i,s,rs,h=>by
  unfold WF at h
  split at h
  ·rename_i hw
   have fin:∀(v:AV) (d:Wr) (ft:List Nat),Fi P K.gl s.e (Cy s.m ft) s.nx o v d→(M9 4 (H8 P o) v fun v=>J9 (isG ops i) v fun v=>Qh nt s.e o.dst v fun e=>WF P K nt ops ms r (i+1) ⟨e,Ad s.m d,s.nx+1⟩ (rs++[⟨d,ft⟩]) R)→∃s' rs',R s'∧Trace P K nt ops (o::r) s s' rs rs'∧E3 ms rs'=true:=by
    intro v d ft ho hk
    obtain ⟨e',hput,hrest⟩:=Jh (Mz (Le 4 _ _ _ hk))
    obtain ⟨s',rs',h1,h2,h3⟩:=U0 r (i+1) _ hrest
    exact ⟨s',rs',h1,.cons ⟨.inl ⟨hw,ho⟩,hput,Nu _ _,rfl⟩ h2,h3⟩
   unfold opF at h
   split at h
   ·rename_i gg args ats ho
    obtain ⟨f,caps,l,h1,h2,v,d,ft,hpc,hk⟩:=Ny h
    rcases hpc with ⟨hp,hc⟩|⟨hpo,rfl⟩
    ·exact fin v d ft (Fi.pure ho h1 h2 hp hc) hk
    ·exact fin v [] ft (Fi.over ho h1 h2 hpo) hk
   ·rename_i t x y ho
    split at h
    ·rename_i a1 x1 h1 h2
     obtain ⟨v,d,hs,hk⟩:=Tq h
     exact fin v d _ (Fi.Pz (by simp only [Pz,ho,h1,h2,hs])) hk
    ·exact h.elim
   ·rename_i t x ho
    split at h
    ·rename_i x1 h1
     obtain ⟨cs,hs,hk⟩:=Yg h
     exact fin _ _ _ (Fi.Pz (by simp only [Pz,ho,h1,Option.bind_some,hs])) hk
    ·exact h.elim
   ·obtain ⟨v,d,ha,hk⟩:=cH h
    exact fin v d _ (Fi.Pz ha) hk
  ·rename_i hw
   obtain ⟨e',hput,hrest⟩:=Jh h
   obtain ⟨s',rs',h1,h2,h3⟩:=U0 r (i+1) _ hrest
   exact ⟨s',rs',h1,.cons (s1:=⟨e',s.m,s.nx+1⟩) (r0:=⟨[],[]⟩) ⟨.inr ⟨hw,rfl,rfl⟩,hput,fun _=>rfl,rfl⟩ h2,h3⟩
  ·exact h.elim
theorem Zt {ms:List Nat} {rs:List Rec} (h:∀q∈rs,q.d=[]):E3 ms rs=true:=by
 unfold E3
 refine List.all_eq_true.2 fun p hp=> ?_
 have:p.1∈rs:=by
  obtain ⟨q,i⟩:=p
  exact List.mem_of_getElem? (List.mem_zipIdx_iff_getElem?.1 hp)
 simp [h p.1 this]
theorem Ame (hm:P.follows .mixedOrders=true) {d:Bool} {id:Nat} {s:St} {R:St→Prop} (h:WR P K nt ops d s R):Ff P K nt n0 (.region id ops d) s (fun x s=>x=.normal∧R s):=by
 intro B c0 cx a sr st hn
 unfold WR at h
 cases d with
 |false=>
  simp only [cond_false] at h
  refine wp_region ?_
  have:=vN (R:=R) hn ops.toList [] (by simp) h sr st
  simpa [List.range_eq_range'] using this
 |true=>
  simp only [cond_true] at h
  obtain ⟨h1,h2⟩:=U8 h
  have ⟨s',rs,hR,⟨S,v,rc,l',a1,a2,a3,a4,a5,a6⟩,hconf⟩:∃s' rs',R s'∧Trace P K nt ops ops.toList s s' [] rs'∧E3 (Gw ops.toList []) rs'=true:=by
   cases hw:ops.toList.any Amo with
   |true=>
    rw [hw] at h2
    exact U0 ops.toList 0 [] h2
   |false=>
    rw [hw] at h2
    obtain ⟨s',rs',b1,b2,b3⟩:=Vp ops.toList 0 [] h2
    exact ⟨s',rs',b1,b2,Zt fun q hq=>(b3 q hq).elim (fun h=>by simp at h) (fun h=>h)⟩
  have D:=j4 h1 a1 a2 a3 a4 a5 a6 hconf
  exact dN hm D sr fun c' a' sr' st'=>⟨.normal,s',c',rfl,⟨rfl,hR⟩,sr',rfl,st.trans st'⟩
theorem tZ {x:A1} {s:St} {R:St→Prop} {Q:A1→St→Prop} (h:x=.normal∧R s) (hR:∀s,R s→Q .normal s):Q x s:=by obtain ⟨rfl,h⟩:=h;exact hR s h
theorem aC (hm:P.follows .mixedOrders=true):∀(c:Code) (s:St) (Q:A1→St→Prop),W P K nt n0 c s Q→Ff P K nt n0 c s Q
 |.skip,s,Q,h=> .skip h
 |.region id ops d,s,Q,h=>(Ame hm h).mono fun x s h=>tZ h fun s h=>h
 |.seq a b,s,Q,h=> .seq ((aC hm a s _ h).mono fun x s' h=>by
   cases x with
   |normal=>exact aC hm b s' Q h
   |exit i=>exact h
   |ret=>exact h)
 |.cond c a b,s,Q,h=>by
  unfold W at h
  split at h
  ·rename_i v hv
   obtain ⟨b',rfl,h1,h2⟩:=cA h
   exact .cond hv (fun e=>aC hm a s Q (h1 e)) (fun e=>aC hm b s Q (h2 e))
  ·exact h.elim
 |.block id b,s,Q,h=> .block (aC hm b s _ h)
 |.loop b,s,Q,h=>h
 |.exit i,s,Q,h=> .exit h
 |.ret,s,Q,h=> .ret h
 |.label l,s,Q,h=> .label h
 |.rangeFunc ..,s,Q,h=>by simp [W] at h
 |.scope ..,s,Q,h=>by simp [W] at h
 |.goto ..,s,Q,h=>by simp [W] at h
 |.refuse ..,s,Q,h=>by simp [W] at h
end
end Go.Proofs.YtkdodbfnocdkdaaGreatDoor
set_option linter.unusedVariables false
set_option linter.unusedSimpArgs false
namespace Go.Proofs.YtkdodbfnocdkdaaGreatDoor
open Go.RowKit
def Ie:Code→Nat
 |.seq a b=>Ie a+Ie b
 |.cond _ a b=>Ie a+Ie b
 |.block _ b=>Ie b
 |.loop _=>1
 |_=>0
def Dy:Code→Nat→Code
 |.seq a b,i=>bif Nat.blt i (Ie a) then Dy a i else Dy b (i-Ie a)
 |.cond _ a b,i=>bif Nat.blt i (Ie a) then Dy a i else Dy b (i-Ie a)
 |.block _ b,i=>Dy b i
 |.loop b,_=>b
 |_,_=> .skip
def Dz (P:Program) (K:Kq) (nt n0:Nat):Code→Nat→(A1→St→Prop)→A1→St→Prop
 |.seq a b,i,Q=>bif Nat.blt i (Ie a) then Dz P K nt n0 a i (Dw (fun s'=>W P K nt n0 b s' Q) Q) else Dz P K nt n0 b (i-Ie a) Q
 |.cond _ a b,i,Q=>bif Nat.blt i (Ie a) then Dz P K nt n0 a i Q else Dz P K nt n0 b (i-Ie a) Q
 |.block id b,i,Q=>Dz P K nt n0 b i (V5 id Q)
 |.loop _,_,Q=>Q
 |_,_,_=>fun _ _=>False
def Io (vals:List AV):Operand→Option AV
 |.tmp i=>vals[i]?
 |.const v=>G0 v
 |_=>none
def Ce (P:Program) (op:Op) (ty:TypeId) (vals:List AV) (look:Nat→Option Be) (n:Nat):Iy:=Pz P (Io vals) look n ⟨none,op,ty, "",#[],none⟩
def Hi (r:Iy) (m:Mem) (k:AV→Mem→Prop):Prop:=H0 r fun v d=>k v (Ad m d)
section
variable (look:Nat→Option Be)
def Ek:AV→Iy
 |.ptr id off=>match look id with|some b=>(b.cells[off]?).map (·,[])|none=>none
 |.Cq cs off=>(cs[off]?).map (·,[])
 |_=>none
def Xw (n:Nat) (cs:List AV) (off:Nat):Option AV:=bif Nat.ble (off+n) cs.length then some (.agg ((cs.drop off).take n)) else none
def Hj (n:Nat):AV→Iy
 |.ptr id off=>match look id with|some b=>(Xw n b.cells off).map (·,[])|none=>none
 |.Cq cs off=>(Xw n cs off).map (·,[])
 |_=>none
def stO (sz:Nat) (a x:AV):Iy:=
 match a,C4 x,some sz with
 |.ptr id off,some cs,some sz=>
  match look id with
  |some b=>bif Nat.beq cs.length sz && Nat.ble (off+cs.length) b.cells.length && cs.all Cl then some (.Es,[(id,some ⟨Dh b.cells off cs,b.ty⟩)]) else none
  |none=>none
 |_,_,_=>none
def Eo (o:Nat):AV→Iy
 |.ptr id off=>some (.ptr id (off+o),[])
 |.Cq cs off=>some (.Cq cs (off+o),[])
 |_=>none
def De (sz:Nat) (x i:AV):Iy:=
 match i with
 |.sc (.int _ z)=>match x with
  |.sl id off esz n cap ex=>bif decide (0≤z) && decide (z<(n:Int)) then some (.ptr id (off+z.toNat*sz),[]) else none
  |.Ec n cs ex=>bif decide (0≤z) && decide (z<(n:Int)) then some (.Cq (elemAt sz cs z.toNat) 0,[]) else none
  |_=>none
 |_=>none
def Mg (len sz:Nat) (x i:AV):Iy:=
 match i with
 |.sc (.int _ z)=>match x with
  |.ptr id off=>bif decide (0≤z) && decide (z<(len:Int)) then some (.ptr id (off+z.toNat*sz),[]) else none
  |.Cq cs off=>bif decide (0≤z) && decide (z<(len:Int)) then some (.Cq cs (off+z.toNat*sz),[]) else none
  |_=>none
 |_=>none
def fvS (o:Nat):AV→Iy
 |.agg cs=>(cs[o]?).map (·,[])
 |_=>none
def fvA (o n:Nat):AV→Iy
 |.agg cs=>(Xw n cs o).map (·,[])
 |_=>none
def alc (zs:List AV) (t n:Nat):Iy:=some (.ptr n 0,[(n,some ⟨zs,t⟩)])
def bx (t:Nat) (x:AV) (n:Nat):Iy:=match C4 x with
 |some cs=>some (.ptr n 0,[(n,some ⟨cs,t⟩)])
 |none=>none
def Mb (zs:List AV) (pl:List (Nat×Nat)) (parts:List (Nat×AV)):Iy:=(Kl (fun i=>pl[i]?) zs parts).map (fun cs=>(.agg cs,[]))
def app (e sz by_:Nat) (zs:List AV) (n:Nat) (s x:AV):Iy:=
 match cellsOf look sz x with
 |some (m,xs)=>
  bif Nat.beq m 0 then
   match s with
   |.Bg|.Ec ..|.sl ..=>some (s,[])
   |_=>none
  else
  match cellsOf look sz s with
  |some (k,old)=>
   bif (Nat.ble ((k+m)*by_) 140737488355328||cW s (k+m)) && Nat.ble (k+m) 4611686018427387904 && Nat.beq zs.length sz && Nat.ble 1 sz && xs.all Cl && Nat.beq xs.length (m*sz) && Nat.beq old.length (k*sz) then
    match s with
    |.Bg=>some (.sl n 0 sz (k+m) (k+m) false,[(n,some ⟨old++xs,e⟩)])
    |.Ec _ _ true=>some (.sl n 0 sz (k+m) (k+m) false,[(n,some ⟨old++xs,e⟩)])
    |.sl id off esz _ cap ex=>
     bif Nat.ble (k+m) cap then
      match look id with
      |some b=>bif Nat.ble (off+(k+m)*sz) b.cells.length then some (.sl id off sz (k+m) cap ex,[(id,some ⟨Dh b.cells (off+k*sz) xs,b.ty⟩)]) else none
      |none=>none
     else bif ex then some (.sl n 0 sz (k+m) (k+m) false,[(n,some ⟨old++xs,e⟩)])
     else bif Nat.beq off 0 && (match look id with|some b=>Nat.beq b.ty e|none=>false) then some (.sl n 0 sz (k+m) (k+m) false,[(n,some ⟨old++xs,e⟩),(id,none)])
     else none
    |_=>none
   else none
  |none=>none
 |none=>none
def Da:AV→Iy
 |.Bg=>some (.sc (.int .i64 0),[])
 |.Ec n _ _=>some (.sc (.int .i64 n),[])
 |.sl _ _ _ n _ _=>some (.sc (.int .i64 n),[])
 |_=>none
def Th (n e sz len:Nat) (zs:List AV) (parts:List (Nat×AV)):Iy:=
 bif Nat.ble (len*sz) 16777216 && Nat.beq zs.length sz && Nat.ble 1 sz then
  match Kl (fun i=>some (i*sz,sz)) (rep zs len) parts with
  |some cs=>some (.sl n 0 sz len len true,[(n,some ⟨cs,e⟩)])
  |none=>none
 else none
def mks (n e sz by_:Nat) (zs:List AV) (l c:AV):Iy:=
 match l,c with
 |.sc (.int .i64 x),.sc (.int .i64 y)=>
  bif decide (0≤x) && decide (x≤y) && decide (y*(by_:Int)≤140737488355328) && decide (y≤4611686018427387904) && Nat.beq zs.length sz && Nat.ble 1 sz then
   some (.sl n 0 sz x.toNat y.toNat true,[(n,some ⟨rep zs y.toNat,e⟩)])
  else none
 |_,_=>none
def Nf (sz:Nat) (x:AV) (lo hi mx:Option AV):Iy:=
 match x with
 |.Bg=>match K2 0 lo,K2 0 hi,K2 0 mx with
  |some 0,some 0,some 0=>bif mx.isSome && hi.isNone then none else some (.Bg,[])
  |_,_,_=>none
 |.Ec n cs ex=>match K2 0 lo,K2 n hi,K2 n mx with
  |some l,some h,some m=>bif Nat.ble l h && Nat.ble h m && Nat.ble m n && Nat.beq cs.length (n*sz) && !(mx.isSome && hi.isNone) then
    some (.Ec (h-l) ((cs.drop (l*sz)).take ((h-l)*sz)) (mx.isSome && Nat.beq h m),[]) else none
  |_,_,_=>none
 |.sl id off esz n cap ex=>match K2 0 lo,K2 n hi,K2 cap mx with
  |some l,some h,some m=>bif Nat.ble l h && Nat.ble h m && Nat.ble m cap && Nat.beq esz sz && !(mx.isSome && hi.isNone) then
    bif Nat.beq l m then some (.Ec 0 [] (ex||mx.isSome),[]) else some (.sl id (off+l*sz) sz (h-l) (m-l) (ex||mx.isSome),[])
   else none
  |_,_,_=>none
 |_=>none
def ext (i:Nat):AV→Iy
 |.Bn vs=>(vs[i]?).map (·,[])
 |_=>none
end
def Awf (v:AV) (k:AV→Prop):Prop:=Ge 1 v fun l=>match l with
 |[a0]=>k a0
 |_=>False
def I3 (v:AV) (k:AV→AV→Prop):Prop:=Ge 2 v fun l=>match l with
 |[a0,a1]=>k a0 a1
 |_=>False
def Aus (v:AV) (k:AV→AV→AV→Prop):Prop:=Ge 3 v fun l=>match l with
 |[a0,a1,a2]=>k a0 a1 a2
 |_=>False
def Hz (v:AV) (k:AV→AV→AV→AV→Prop):Prop:=Ge 4 v fun l=>match l with
 |[a0,a1,a2,a3]=>k a0 a1 a2 a3
 |_=>False
def Aiv (v:AV) (k:AV→AV→AV→AV→AV→Prop):Prop:=Ge 5 v fun l=>match l with
 |[a0,a1,a2,a3,a4]=>k a0 a1 a2 a3 a4
 |_=>False
def Kx (v:AV) (k:AV→AV→AV→AV→AV→AV→Prop):Prop:=Ge 6 v fun l=>match l with
 |[a0,a1,a2,a3,a4,a5]=>k a0 a1 a2 a3 a4 a5
 |_=>False
def vV (v:AV) (k:AV→AV→AV→AV→AV→AV→AV→Prop):Prop:=Ge 7 v fun l=>match l with
 |[a0,a1,a2,a3,a4,a5,a6]=>k a0 a1 a2 a3 a4 a5 a6
 |_=>False
def Avr (v:AV) (k:AV→AV→AV→AV→AV→AV→AV→AV→Prop):Prop:=Ge 8 v fun l=>match l with
 |[a0,a1,a2,a3,a4,a5,a6,a7]=>k a0 a1 a2 a3 a4 a5 a6 a7
 |_=>False
def Avg (v:AV) (k:AV→AV→AV→AV→AV→AV→AV→AV→AV→Prop):Prop:=Ge 9 v fun l=>match l with
 |[a0,a1,a2,a3,a4,a5,a6,a7,a8]=>k a0 a1 a2 a3 a4 a5 a6 a7 a8
 |_=>False
def Atj (v:AV) (k:AV→AV→AV→AV→AV→AV→AV→AV→AV→AV→Prop):Prop:=Ge 10 v fun l=>match l with
 |[a0,a1,a2,a3,a4,a5,a6,a7,a8,a9]=>k a0 a1 a2 a3 a4 a5 a6 a7 a8 a9
 |_=>False
def Ato (v:AV) (k:AV→AV→AV→AV→AV→AV→AV→AV→AV→AV→AV→Prop):Prop:=Ge 11 v fun l=>match l with
 |[a0,a1,a2,a3,a4,a5,a6,a7,a8,a9,a10]=>k a0 a1 a2 a3 a4 a5 a6 a7 a8 a9 a10
 |_=>False
def Atq (v:AV) (k:AV→AV→AV→AV→AV→AV→AV→AV→AV→AV→AV→AV→Prop):Prop:=Ge 12 v fun l=>match l with
 |[a0,a1,a2,a3,a4,a5,a6,a7,a8,a9,a10,a11]=>k a0 a1 a2 a3 a4 a5 a6 a7 a8 a9 a10 a11
 |_=>False
def Atf (v:AV) (k:AV→AV→AV→AV→AV→AV→AV→AV→AV→AV→AV→AV→AV→Prop):Prop:=Ge 13 v fun l=>match l with
 |[a0,a1,a2,a3,a4,a5,a6,a7,a8,a9,a10,a11,a12]=>k a0 a1 a2 a3 a4 a5 a6 a7 a8 a9 a10 a11 a12
 |_=>False
def Atm (v:AV) (k:AV→AV→AV→AV→AV→AV→AV→AV→AV→AV→AV→AV→AV→AV→Prop):Prop:=Ge 14 v fun l=>match l with
 |[a0,a1,a2,a3,a4,a5,a6,a7,a8,a9,a10,a11,a12,a13]=>k a0 a1 a2 a3 a4 a5 a6 a7 a8 a9 a10 a11 a12 a13
 |_=>False
def Ath (v:AV) (k:AV→AV→AV→AV→AV→AV→AV→AV→AV→AV→AV→AV→AV→AV→AV→Prop):Prop:=Ge 15 v fun l=>match l with
 |[a0,a1,a2,a3,a4,a5,a6,a7,a8,a9,a10,a11,a12,a13,a14]=>k a0 a1 a2 a3 a4 a5 a6 a7 a8 a9 a10 a11 a12 a13 a14
 |_=>False
def Att (v:AV) (k:AV→AV→AV→AV→AV→AV→AV→AV→AV→AV→AV→AV→AV→AV→AV→AV→Prop):Prop:=Ge 16 v fun l=>match l with
 |[a0,a1,a2,a3,a4,a5,a6,a7,a8,a9,a10,a11,a12,a13,a14,a15]=>k a0 a1 a2 a3 a4 a5 a6 a7 a8 a9 a10 a11 a12 a13 a14 a15
 |_=>False
def Ate (v:AV) (k:AV→AV→AV→AV→AV→AV→AV→AV→AV→AV→AV→AV→AV→AV→AV→AV→AV→Prop):Prop:=Ge 17 v fun l=>match l with
 |[a0,a1,a2,a3,a4,a5,a6,a7,a8,a9,a10,a11,a12,a13,a14,a15,a16]=>k a0 a1 a2 a3 a4 a5 a6 a7 a8 a9 a10 a11 a12 a13 a14 a15 a16
 |_=>False
def Ati (v:AV) (k:AV→AV→AV→AV→AV→AV→AV→AV→AV→AV→AV→AV→AV→AV→AV→AV→AV→AV→Prop):Prop:=Ge 18 v fun l=>match l with
 |[a0,a1,a2,a3,a4,a5,a6,a7,a8,a9,a10,a11,a12,a13,a14,a15,a16,a17]=>k a0 a1 a2 a3 a4 a5 a6 a7 a8 a9 a10 a11 a12 a13 a14 a15 a16 a17
 |_=>False
def Atk (v:AV) (k:AV→AV→AV→AV→AV→AV→AV→AV→AV→AV→AV→AV→AV→AV→AV→AV→AV→AV→AV→Prop):Prop:=Ge 19 v fun l=>match l with
 |[a0,a1,a2,a3,a4,a5,a6,a7,a8,a9,a10,a11,a12,a13,a14,a15,a16,a17,a18]=>k a0 a1 a2 a3 a4 a5 a6 a7 a8 a9 a10 a11 a12 a13 a14 a15 a16 a17 a18
 |_=>False
def Atl (v:AV) (k:AV→AV→AV→AV→AV→AV→AV→AV→AV→AV→AV→AV→AV→AV→AV→AV→AV→AV→AV→AV→Prop):Prop:=Ge 20 v fun l=>match l with
 |[a0,a1,a2,a3,a4,a5,a6,a7,a8,a9,a10,a11,a12,a13,a14,a15,a16,a17,a18,a19]=>k a0 a1 a2 a3 a4 a5 a6 a7 a8 a9 a10 a11 a12 a13 a14 a15 a16 a17 a18 a19
 |_=>False
def Atg (v:AV) (k:AV→AV→AV→AV→AV→AV→AV→AV→AV→AV→AV→AV→AV→AV→AV→AV→AV→AV→AV→AV→AV→Prop):Prop:=Ge 21 v fun l=>match l with
 |[a0,a1,a2,a3,a4,a5,a6,a7,a8,a9,a10,a11,a12,a13,a14,a15,a16,a17,a18,a19,a20]=>k a0 a1 a2 a3 a4 a5 a6 a7 a8 a9 a10 a11 a12 a13 a14 a15 a16 a17 a18 a19 a20
 |_=>False
def wA (v:AV) (k:AV→AV→AV→AV→AV→AV→AV→AV→AV→AV→AV→AV→AV→AV→AV→AV→AV→AV→AV→AV→AV→AV→Prop):Prop:=Ge 22 v fun l=>match l with
 |[a0,a1,a2,a3,a4,a5,a6,a7,a8,a9,a10,a11,a12,a13,a14,a15,a16,a17,a18,a19,a20,a21]=>k a0 a1 a2 a3 a4 a5 a6 a7 a8 a9 a10 a11 a12 a13 a14 a15 a16 a17 a18 a19 a20 a21
 |_=>False
def Atn (v:AV) (k:AV→AV→AV→AV→AV→AV→AV→AV→AV→AV→AV→AV→AV→AV→AV→AV→AV→AV→AV→AV→AV→AV→AV→Prop):Prop:=Ge 23 v fun l=>match l with
 |[a0,a1,a2,a3,a4,a5,a6,a7,a8,a9,a10,a11,a12,a13,a14,a15,a16,a17,a18,a19,a20,a21,a22]=>k a0 a1 a2 a3 a4 a5 a6 a7 a8 a9 a10 a11 a12 a13 a14 a15 a16 a17 a18 a19 a20 a21 a22
 |_=>False
def Atb (v:AV) (k:AV→AV→AV→AV→AV→AV→AV→AV→AV→AV→AV→AV→AV→AV→AV→AV→AV→AV→AV→AV→AV→AV→AV→AV→Prop):Prop:=Ge 24 v fun l=>match l with
 |[a0,a1,a2,a3,a4,a5,a6,a7,a8,a9,a10,a11,a12,a13,a14,a15,a16,a17,a18,a19,a20,a21,a22,a23]=>k a0 a1 a2 a3 a4 a5 a6 a7 a8 a9 a10 a11 a12 a13 a14 a15 a16 a17 a18 a19 a20 a21 a22 a23
 |_=>False
def Rr (v:AV) (k:Prop):Prop:=O9 0 v fun l=>match l with
 |[]=>k
 |_=>False
@[simp] theorem cC (k:Prop):Rr (.Bn []) k=k:=rfl
def E7 (v:AV) (k:AV→AV→Prop):Prop:=O9 2 v fun l=>match l with
 |[a0,a1]=>k a0 a1
 |_=>False
def rG (v:AV) (k:AV→AV→AV→Prop):Prop:=O9 3 v fun l=>match l with
 |[a0,a1,a2]=>k a0 a1 a2
 |_=>False
def Atz (v:AV) (k:AV→AV→AV→AV→Prop):Prop:=O9 4 v fun l=>match l with
 |[a0,a1,a2,a3]=>k a0 a1 a2 a3
 |_=>False
def Av4 (v:AV) (k:AV→AV→AV→AV→AV→Prop):Prop:=O9 5 v fun l=>match l with
 |[a0,a1,a2,a3,a4]=>k a0 a1 a2 a3 a4
 |_=>False
def Auj (v:AV) (k:AV→AV→AV→AV→AV→AV→Prop):Prop:=O9 6 v fun l=>match l with
 |[a0,a1,a2,a3,a4,a5]=>k a0 a1 a2 a3 a4 a5
 |_=>False
def At5 (v:AV) (k:AV→AV→AV→AV→AV→AV→AV→Prop):Prop:=O9 7 v fun l=>match l with
 |[a0,a1,a2,a3,a4,a5,a6]=>k a0 a1 a2 a3 a4 a5 a6
 |_=>False
def Avj (v:AV) (k:AV→AV→AV→AV→AV→AV→AV→AV→Prop):Prop:=O9 8 v fun l=>match l with
 |[a0,a1,a2,a3,a4,a5,a6,a7]=>k a0 a1 a2 a3 a4 a5 a6 a7
 |_=>False
@[simp] theorem La (p:Prop):Ic true p=p:=rfl
def vP:List (Option AV)→Option (List AV)
 |[]=>some []
 |r::rs=>match r,vP rs with
  |some v,some l=>some (v::l)
  |_,_=>none
def yW:Option (List AV)→Option AV
 |some [v]=>some v
 |some l=>some (.Bn l)
 |none=>none
def As (R:AV→Mem→Prop) (m:Mem) (os:List (Option AV)):Prop:=match yW (vP os) with
 |some v=>R v m
 |none=>False
def Cm (P:Program) (fn:Func) (R:AV→Mem→Prop):A1→St→Prop
 |.normal,s=>(match Fw P fn s with|some v=>R v s.m|none=>False)
 |.ret,s=>(match Fw P fn s with|some v=>R v s.m|none=>False)
 |_,_=>False
end Go.Proofs.YtkdodbfnocdkdaaGreatDoor
set_option linter.unusedVariables false
set_option linter.unusedSimpArgs false
namespace Go.Proofs.YtkdodbfnocdkdaaGreatDoor
open Go.RowKit
mutual
def norm:AV→AV
 |.Bg=> .Ec 0 [] false
 |.Ec n cs _=> .Ec n (He cs) false
 |.agg cs=> .agg (He cs)
 |.Bn cs=> .Bn (He cs)
 |.Cq cs off=> .Cq (He cs) off
 |.fn f cs=> .fn f (He cs)
 |x=>x
def He:List AV→List AV
 |[]=>[]
 |x::xs=>norm x::He xs
end
mutual
theorem Vi {c:Cx} {x:AV} {v:Value}:Bo c x v→Bo c (norm x) v
 |.Es v=> .Es v
 |.sc v h=> .sc v h
 |.agg h=> .agg (F4 h)
 |.Bn h=> .Bn (F4 h)
 |.Lb=> .Lb
 |.ptr h off=> .ptr h off
 |.Cq hb h hc off=> .Cq hb (F4 h) hc off
 |.Bg=> .Gd none 0 false (fun h=>by cases h) (Nat.zero_le _) (fun _=>rfl)
 |.Gd a cap ex he hm hn=> .Gd a cap false (fun h=>by cases h) hm hn
 |.Ec hb h hc hn he hm=> .Ec hb (F4 h) hc hn (fun h=>by cases h) hm
 |.sl h hb hs hn hc he hm=> .sl h hb hs hn hc he hm
 |.fn f h=> .fn f (F4 h)
 |.Qe=> .Qe
 |.Tt u v=> .Tt u v
theorem F4 {c:Cx} {xs:List AV} {vs:List Value}:Bm c xs vs→Bm c (He xs) vs
 |.nil=> .nil
 |.cons h t=> .cons (Vi h) (F4 t)
end
section
variable {P:Program} {K:Kq} {gl:Nat→Option (List AV)}
def Own (P:Program) (gl:Nat→Option (List AV)) (f:FuncId) (args:List AV) (R:AV→Mem→Prop):Prop:=
 E8 P f∧∀(B:Nat) (c:Cx) (vals:List Value),Good B c→Cw gl c→(∀id,c.M id=none)→(∀id,¬c.al id)→Bm c args vals→Calls P f vals.toArray c.w (fun e w'=>∃u m nx,R u m∧Hm B c u m nx e w')
theorem u6 (hm:P.follows .mixedOrders=true) {f:FuncId} {fn:Func} {code:Code} (hf:P.funcs[f]?=some fn) (hb:fn.body=some code) (hn:(fn.name== "runtime.NumGoroutine")=false) {args:List AV} (hl:Nat.ble args.length fn.ntmps=true) {R:AV→Mem→Prop}
  (h:W P K fn.ntmps 0 code ⟨Eu args 0,[],0⟩ (Cm P fn R)):Own P K.gl f args R:=by
 refine ⟨⟨fn,code,hf,hb,hn⟩,fun B c vals g hgl hM ha hr=> ?_⟩
 have tri:Ff P K fn.ntmps 0 code ⟨Eu args 0,[],0⟩ (fun x s=>(x=.normal∨x=.ret)∧∃v,Fw P fn s=some v∧R v s.m):=(aC hm code _ _ h).mono fun x s hq=>by
  cases x with
  |normal=>
   simp only [Cm] at hq
   split at hq
   ·rename_i v hv;exact ⟨.inl rfl,v,hv,hq⟩
   ·exact hq.elim
  |ret=>
   simp only [Cm] at hq
   split at hq
   ·rename_i v hv;exact ⟨.inr rfl,v,hv,hq⟩
   ·exact hq.elim
  |exit i=>exact hq.elim
 exact (Lt (R:=fun v m' _=>R v m') hf hb (Nat.le_of_ble_eq_true hl) tri g hgl (fun id=>by rw [hM];rfl) (fun id h=>absurd h (ha id)) hr).mono fun e w' ⟨v,m',nx',h1,h2⟩=>⟨v,m',nx',h1,h2⟩
theorem Fe (hm:P.follows .mixedOrders=true) {f:FuncId} {fn:Func} {code:Code} (hf:P.funcs[f]?=some fn) (hb:fn.body=some code) (hn:(fn.name== "runtime.NumGoroutine")=false) {args:List AV} (hl:Nat.ble args.length fn.ntmps=true) {R:AV→Mem→Prop} {X:Prop}
  (hX:W P K fn.ntmps 0 code ⟨Eu args 0,[],0⟩ (Cm P fn R)=X) (h:X):Own P K.gl f args R:=u6 hm hf hb hn hl (hX.mpr h)
theorem Own.mono {f:FuncId} {args:List AV} {R R':AV→Mem→Prop} (h:Own P gl f args R) (hr:∀v m,R v m→R' v m):Own P gl f args R':=
 ⟨h.1,fun B c vals g hgl hM ha hr'=>(h.2 B c vals g hgl hM ha hr').mono fun e w' ⟨u,m,nx,h1,h2⟩=>⟨u,m,nx,hr u m h1,h2⟩⟩
def Dv (v:AV) (u:AV) (m:Mem):Prop:=(freeze (Al m) 6 u).map norm=some v
theorem I5.any {f:FuncId} {args:List AV} {v:AV} (h:I5 P gl (fun _=>none) f args v) (look:Nat→Option Be):I5 P gl look f args v:=
 ⟨h.1,fun B c vals g hgl _ hr=>h.2 B c vals g hgl (fun _ _ h=>by cases h) hr⟩
theorem Mr {f:FuncId} {args:List AV} {v:AV} (hc:Bk args=true) (hv:clean v=true) (h:Own P gl f args (Dv v)):Ci P gl f args v:=by
 refine ⟨hc,hv,h.1,fun B c vals g hgl _ hr=> ?_⟩
 have hBs:=g.hB
 have hno:∀b,(c.own b∨c.no b)→b<c.w.heap.size:=by
  rintro b (⟨id,By,h1,h2⟩|h)
  ·rw [← h2];exact g.lt h1
  ·have:=g.Jg b h;omega
 have hst:∀b,c.Bx b→(c.alone fun b=>c.own b∨c.no b).Bx b:=fun b ⟨h1,h2,h3⟩=>⟨h1,Ct,fun h=>h.elim h2 h3⟩
 refine (h.2 c.w.heap.size (c.alone fun b=>c.own b∨c.no b) vals (Eb hno) (Cw.Ca (c:=c) rfl hst hgl) (fun _=>rfl) (fun _ h=>h) (Bm.Ca (c:=c) (c0:=c.alone fun b=>c.own b∨c.no b) rfl hst hr hc)).mono ?_
 rintro e w' ⟨u,m,nx,hans,u',c0,rfl,rfl,k1,k2,k3,k4,k5⟩
 obtain ⟨v',hv',rfl⟩:=Option.map_eq_some_iff.1 hans
 refine ⟨u',{c with w:=c0.w},rfl,rfl,Vi ?_,G2 g k2,Hv g k2,fun _=>rfl,fun _=>Iff.rfl⟩
 refine L1 (c':={c with w:=c0.w}) k3 rfl ?_ ?_ (fun id b h=>by rw [k4];exact h) 6 k1 hv'
 ·rintro b ⟨h1,h2,h3⟩
  refine ⟨h1,fun ho=>h3 ((k2.no b).2 (.inl ho)),fun hn=>h3 ((k2.no b).2 (.inr hn))⟩
 ·rintro b ⟨id,By,h1,h2⟩
  have hlow:=(k3.low id By h1).1
  refine ⟨by rw [← h2];exact k3.lt h1,?_,fun hn=> ?_⟩
  ·rintro ⟨id',blk',h1',h2'⟩
   have:=g.lt h1'
   have e2:c.f id'=b:=h2'
   omega
  ·have:b<B:=g.Jg b hn
   omega
theorem Ci.at {f:FuncId} {args:List AV} {v:AV} (h:Ci P gl f args v) (look:Nat→Option Be):I5 P gl look f args v:=h.2.2.any look
theorem Jl {m:Mem} {nx:Nat} {f:FuncId} {args:List AV} {v:AV} {k:AV→Mem→Prop} (h:I5 P gl (Al m) f args v) (hk:k v m):C1 P gl m nx f args k:=
 ⟨h.1,fun B c vals g hgl hM ha hr=>(h.2 B c vals g hgl (fun id b hb=>by rw [hM];exact hb) hr).mono fun e w' ⟨v',c',h1,h2,h3,h4,h5,h6,h7⟩=>
  ⟨v,m,hk,v',c',h1,h2,h3,h4,h5,fun id=>by rw [h6,hM],fun id h=>by have:=ha id ((h7 id).1 h);omega⟩⟩
theorem G5 {m:Mem} {nx:Nat} {f:FuncId} {args:List AV} {v:AV} {k:AV→Mem→Prop} (h:Ci P gl f args v) (hk:k v m):C1 P gl m nx f args k:=Jl (h.at _) hk
theorem Pp {m:Mem} {f:FuncId} {args:List AV} {v:AV} {k:AV→Prop} (h:Ci P gl f args v) (hk:k v):A2 P gl m f args k:=⟨v,.inl (h.at _),hk⟩
theorem G8 {m:Mem} {f:FuncId} {args:List AV} {v:AV} {k:AV→Prop} (h:I5 P gl (Al m) f args v) (hk:k v):A2 P gl m f args k:=⟨v,.inl h,hk⟩
theorem Jw {m:Mem} {n:Nat} {f:FuncId} {args:List AV} {v:AV} {k:AV→Wr→List Nat→Prop} (h:Ci P gl f args v) (hk:k v [] []):Uy P gl m n f args k:=⟨v,[],[],.inl (h.at _).toD,hk⟩
def rS (off esz k cap:Nat) (ex:Bool) (b:Be) (u:AV) (m:Mem):Prop:=∃id,u=.sl id off esz k cap ex∧Al m id=some b
theorem eC {n:Nat} {look:Nat→Option Be} {f:FuncId} {args:List AV} {off esz k cap:Nat} {ex:Bool} {b:Be} (hc:Bk args=true) (hb:Bk b.cells=true) (h:Own P gl f args (rS off esz k cap ex b)):Dq P gl look n f args (.sl n off esz k cap ex) [(n,some b)]:=by
 refine ⟨h.1,fun B c vals g hgl hn _ hr=> ?_⟩
 have hBs:=g.hB
 have hno:∀b,(c.own b∨c.no b)→b<c.w.heap.size:=by
  rintro b (⟨id,By,h1,h2⟩|h)
  ·rw [← h2];exact g.lt h1
  ·have:=g.Jg b h;omega
 have hst:∀b,c.Bx b→(c.alone fun b=>c.own b∨c.no b).Bx b:=fun b ⟨h1,h2,h3⟩=>⟨h1,Ct,fun h=>h.elim h2 h3⟩
 refine (h.2 c.w.heap.size (c.alone fun b=>c.own b∨c.no b) vals (Eb hno) (Cw.Ca (c:=c) rfl hst hgl) (fun _=>rfl) (fun _ h=>h) (Bm.Ca (c:=c) (c0:=c.alone fun b=>c.own b∨c.no b) rfl hst hr hc)).mono ?_
 rintro e w' ⟨u,m,nx,⟨id,rfl,hm⟩,u',c0,rfl,rfl,k1,k2,k3,k4,k5⟩
 exact Lu g hn k2 k3 (by rw [k4];exact hm) hb k1
theorem Ea {m:Mem} {nx:Nat} {f:FuncId} {args:List AV} {v:AV} {d:Wr} {k:AV→Mem→Prop} (h:Dq P gl (Al m) nx f args v d) (hk:k v (Ad m d)):C1 P gl m nx f args k:=
 ⟨h.1,fun B c vals g hgl hM ha hr=>(h.2 B c vals g hgl (fun h=>Nat.lt_irrefl _ (ha _ h)) (fun id b hb=>by rw [hM];exact hb) hr).mono fun e w' ⟨v',c',h1,h2,h3,h4,h5,h6,h7,h8⟩=>
  ⟨v,Ad m d,hk,v',c',h1,h2,h3,h4,h5,fun id=>by rw [h6,Nu];exact Rp d hM id,fun id h=>by
   rcases h7 id h with h|rfl
   ·have:=ha id h;omega
   ·omega⟩⟩
def Md (K:Kq) (nt n0:Nat) (s s0:St):Prop:=∀(B:Nat) (c0 cx:Cx) (a:Act),SR K.gl B nt cx s a→Step c0 cx→(∀id,c0.al id→id<n0)→∃cx',SR K.gl B nt cx' s0 a∧Step c0 cx'∧cx'.w=cx.w
variable {nt n0:Nat}
theorem Ff.zZ {s s0:St} {c:Code} {Q:A1→St→Prop} (hw:Md K nt n0 s s0) (h:Ff P K nt n0 c s0 Q):Ff P K nt n0 c s Q:=fun B c0 cx a sr st hn=>by
 obtain ⟨cx',sr',st',e⟩:=hw B c0 cx a sr st hn
 rw [← e];exact h B c0 cx' a sr' st' hn
theorem Vq.zZ {s s0:St} {c:Code} {n:Nat} {Q:A1→St→Prop} (hw:Md K nt n0 s s0) (h:Vq P K nt n0 c n s0 Q):Vq P K nt n0 c n s Q:=fun B c0 cx a sr st hn=>by
 obtain ⟨cx',sr',st',e⟩:=hw B c0 cx a sr st hn
 rw [← e];exact h B c0 cx' a sr' st' hn
theorem Ff.loops (hm:P.follows .mixedOrders=true) {body:Code} {Q:A1→St→Prop} {σ:Type} (I:σ→Prop) (st:σ→St) (μ:σ→Nat)
  (step:∀x,I x→W P K nt n0 body (st x) (Dw (fun s'=>∃y,I y∧μ y<μ x∧Md K nt n0 s' (st y)) Q)):∀x,I x→Ff P K nt n0 (.loop body) (st x) Q:=by
 have key:∀n x,μ x<n→I x→Vq P K nt n0 body n (st x) Q:=by
  intro n
  induction n with
  |zero=>intro x h;omega
  |succ n ih=>
   intro x hx hI
   refine Vq.succ ((aC hm body _ _ (step x hI)).mono fun ex s' h=> ?_)
   cases ex with
   |normal=>
    obtain ⟨y,hy,hlt,hw⟩:=h
    exact (ih y (by omega) hy).zZ hw
   |exit i=>exact h
   |ret=>exact h
 exact fun x hI=> .loop (key (μ x+1) x (by omega) hI)
mutual
def Ja (π:Nat→Nat):AV→AV
 |.agg cs=> .agg (H3 π cs)
 |.Bn cs=> .Bn (H3 π cs)
 |.ptr id off=> .ptr (π id) off
 |.Cq cs off=> .Cq (H3 π cs) off
 |.Ec n cs ex=> .Ec n (H3 π cs) ex
 |.sl id off esz n cap ex=> .sl (π id) off esz n cap ex
 |.fn f cs=> .fn f (H3 π cs)
 |x=>x
def H3 (π:Nat→Nat):List AV→List AV
 |[]=>[]
 |x::xs=>Ja π x::H3 π xs
end
mutual
theorem Gu (π:Nat→Nat):∀{x:AV},clean x=true→Ja π x=x
 |.Es,_=>rfl
 |.sc _,_=>rfl
 |.agg cs,h=>by simp only [Ja];rw [G4 π (by simpa [clean] using h)]
 |.Bn cs,h=>by simp only [Ja];rw [G4 π (by simpa [clean] using h)]
 |.Lb,_=>rfl
 |.ptr ..,h=>by simp [clean] at h
 |.Cq cs off,h=>by simp only [Ja];rw [G4 π (by simpa [clean] using h)]
 |.Bg,_=>rfl
 |.Ec n cs ex,h=>by simp only [Ja];rw [G4 π (by simpa [clean] using h)]
 |.sl ..,h=>by simp [clean] at h
 |.fn f cs,h=>by simp only [Ja];rw [G4 π (by simpa [clean] using h)]
 |.w8 _,_=>rfl
theorem G4 (π:Nat→Nat):∀{xs:List AV},Bk xs=true→H3 π xs=xs
 |[],_=>rfl
 |x::xs,h=>by
  simp only [Bk,Bool.and_eq_true] at h
  simp only [H3];rw [Gu π h.1,G4 π h.2]
end
def Cx.Ja (c:Cx) (π:Nat→Nat) (m0:Mem):Cx:={w:=c.w,f:=fun id=>c.f (π id),al:=fun id=>c.al (π id),M:=Al m0,no:=c.no}
section
variable {c:Cx} {π:Nat→Nat} {m0:Mem}
theorem Jk (ho:∀b,(c.Ja π m0).own b→c.own b) {b:Nat} (h:c.Bx b):(c.Ja π m0).Bx b:=⟨h.1,fun h'=>h.2.1 (ho b h'),h.2.2⟩
mutual
theorem Qt (ho:∀b,(c.Ja π m0).own b→c.own b):∀{x:AV} {v:Value},Bo c (Go.Proofs.YtkdodbfnocdkdaaGreatDoor.Ja π x) v→Bo (c.Ja π m0) x v
 |.Es,v,_=> .Es v
 |.sc u,v,h=>by simp only [Go.Proofs.YtkdodbfnocdkdaaGreatDoor.Ja] at h;cases h with|sc _ hv=>exact .sc _ hv
 |.agg cs,v,h=>by simp only [Go.Proofs.YtkdodbfnocdkdaaGreatDoor.Ja] at h;cases h with|agg hr=>exact .agg (I4 ho hr)
 |.Bn cs,v,h=>by simp only [Go.Proofs.YtkdodbfnocdkdaaGreatDoor.Ja] at h;cases h with|Bn hr=>exact .Bn (I4 ho hr)
 |.Lb,v,h=>by simp only [Go.Proofs.YtkdodbfnocdkdaaGreatDoor.Ja] at h;cases h;exact .Lb
 |.ptr id off,v,h=>by simp only [Go.Proofs.YtkdodbfnocdkdaaGreatDoor.Ja] at h;cases h with|ptr ha=>exact Bo.ptr (c:=c.Ja π m0) (id:=id) ha off
 |.Cq cs off,v,h=>by simp only [Go.Proofs.YtkdodbfnocdkdaaGreatDoor.Ja] at h;cases h with|Cq hb hr hc off=>exact Bo.Cq (c:=c.Ja π m0) (Jk ho hb) (I4 ho hr) hc off
 |.Bg,v,h=>by simp only [Go.Proofs.YtkdodbfnocdkdaaGreatDoor.Ja] at h;cases h;exact .Bg
 |.Ec n cs ex,v,h=>by
  simp only [Go.Proofs.YtkdodbfnocdkdaaGreatDoor.Ja] at h
  generalize hcs:H3 π cs=cs' at h
  cases h with
  |Gd a cap ex he hm hn=>
   cases cs with
   |nil=>exact .Gd a cap ex he hm hn
   |cons y ys=>simp [H3] at hcs
  |Ec hb hr hc hn he hm=>rw [← hcs] at hr;exact Bo.Ec (c:=c.Ja π m0) (Jk ho hb) (I4 ho hr) hc hn he hm
 |.sl id off esz n cap ex,v,h=>by simp only [Go.Proofs.YtkdodbfnocdkdaaGreatDoor.Ja] at h;cases h with|sl ha hb hs hn hc he hm=>exact Bo.sl (c:=c.Ja π m0) (id:=id) ha hb hs hn hc he hm
 |.fn f cs,v,h=>by simp only [Go.Proofs.YtkdodbfnocdkdaaGreatDoor.Ja] at h;cases h with|fn f hr=>exact .fn f (I4 ho hr)
 |.w8 p,v,h=>by
  simp only [Go.Proofs.YtkdodbfnocdkdaaGreatDoor.Ja] at h
  cases h with
  |Qe=>exact .Qe
  |Tt u q=>exact .Tt u q
theorem I4 (ho:∀b,(c.Ja π m0).own b→c.own b):∀{xs:List AV} {vs:List Value},Bm c (H3 π xs) vs→Bm (c.Ja π m0) xs vs
 |[],vs,h=>by simp only [H3] at h;cases h;exact .nil
 |x::xs,vs,h=>by simp only [H3] at h;cases h with|cons h1 h2=>exact .cons (Qt ho h1) (I4 ho h2)
end
end
theorem uD {s:St} {e0:List (Nat×AV)} {m0:Mem} {nx0:Nat} (π:Nat→Nat) (h0:n0≤nx0) (h1:∀id,id<n0→π id=id) (h5:∀id,nx0≤id→s.nx≤π id)
  (h2:∀t,Fl e0 t=.Es∨Fl s.e t=Ja π (Fl e0 t)) (h3:∀id b,Al m0 id=some b→∃b',Al s.m (π id)=some b'∧b'.ty=b.ty∧b'.cells=H3 π b.cells) (h4:∀id id' b b',Al m0 id=some b→Al m0 id'=some b'→π id=π id'→id=id'):Md K nt n0 s ⟨e0,m0,nx0⟩:=by
 intro B c0 cx a sr st hn
 have hM:∀id b,Al m0 id=some b→∃b',cx.M (π id)=some b'∧b'.ty=b.ty∧b'.cells=H3 π b.cells:=fun id b h=>by
  obtain ⟨b',k1,k2⟩:=h3 id b h
  exact ⟨b',by rw [sr.m];exact k1,k2⟩
 have ho:∀b,(cx.Ja π m0).own b→cx.own b:=by
  rintro b ⟨id,By,k1,k2⟩
  obtain ⟨b',k3,-⟩:=hM id By k1
  exact ⟨π id,b',k3,k2⟩
 refine ⟨cx.Ja π m0,⟨⟨sr.g.hB,fun id By h=> ?_,fun id By h=> ?_,sr.g.Jg,fun id id' By blk' h h' hf=> ?_⟩,fun t=> ?_,fun _=>rfl,fun id h=> ?_,sr.sz,sr.df,?_⟩,⟨st.os,st.tape,st.output,st.size,st.By,fun b hb h=>st.own b hb (ho b h),fun id h=> ?_,fun id h=> ?_,st.no,st.Xm,st.drawn⟩,rfl⟩
 ·obtain ⟨b',k3,-⟩:=hM id By h
  exact sr.g.low (π id) b' k3
 ·obtain ⟨b',k3,k4,k5⟩:=hM id By h
  obtain ⟨arr,vs,rest,q1,q2,q3⟩:=sr.g.By (π id) b' k3
  rw [k5] at q3
  exact ⟨arr,vs,rest,by rw [← k4];exact q1,q2,I4 ho q3⟩
 ·obtain ⟨b1,k1,-⟩:=hM id By h
  obtain ⟨b2,k2,-⟩:=hM id' blk' h'
  exact h4 id id' By blk' h h' (sr.g.inj (π id) (π id') b1 b2 k1 k2 hf)
 ·rcases h2 t with h|h
  ·show Bo _ (Fl e0 t) _
   rw [h];exact .Es _
  ·have:=sr.e t
   rw [h] at this
   exact Qt ho this
 ·have k:cx.al (π id):=h
  have:=sr.al _ k
  rcases Nat.lt_or_ge id nx0 with h'|h'
  ·exact h'
  ·have:=h5 id h';omega
 ·intro g cs hg
  obtain ⟨k1,k2,k3⟩:=sr.gl g cs hg
  refine ⟨k1,Qt ho ?_,fun q=>(k3 q).Ca (c:=cx) (c0:=cx.Ja π m0) rfl fun b h=>Jk ho h⟩
  rw [Gu π (by simpa [clean] using k1)]
  exact k2
 ·have:=h1 id (hn id h)
  show cx.f (π id)=c0.f id
  rw [this];exact st.f id h
 ·have:=h1 id (hn id h)
  show cx.al (π id)
  rw [this];exact st.al id h
def Auc (e0:List (Nat×AV)) (p:Nat→AV→Bool):Bool:=e0.all fun q=>p q.1 q.2
theorem Vt:∀(e:List (Nat×AV)) (t:Nat),Fl e t=.Es∨(t,Fl e t)∈e
 |[],t=> .inl rfl
 |(j,v)::r,t=>by
  unfold Fl
  cases h:Nat.beq j t with
  |true=>simp only [cond_true];rw [beq_true h];exact .inr (by simp)
  |false=>
   simp only [cond_false]
   rcases Vt r t with h|h
   ·exact .inl h
   ·exact .inr (by simp [h])
theorem iX {s:St} {e0:List (Nat×AV)} {nx0:Nat} (h0:n0≤nx0) (h:∀p∈e0,Fl s.e p.1=p.2∧clean p.2=true):Md K nt n0 s ⟨e0,[],nx0⟩:=by
 refine uD (fun id=>if id<n0 then id else s.nx+id) h0 (fun id h=>by simp [h]) (fun id h=>by rw [if_neg (by omega)];omega) (fun t=> ?_) (fun id b h=>by simp [Al] at h) (fun id id' b b' h=>by simp [Al] at h)
 rcases Vt e0 t with h1|h1
 ·exact .inl h1
 ·obtain ⟨k1,k2⟩:=h _ h1
  exact .inr (by rw [Gu _ k2];exact k1)
def okE (e:List (Nat×AV)):List (Nat×AV)→Prop
 |[]=>True
 |(t,v)::r=>(Fl e t=v∧clean v=true)∧okE e r
theorem lF {e:List (Nat×AV)}:∀{e0:List (Nat×AV)},okE e e0→∀p∈e0,Fl e p.1=p.2∧clean p.2=true
 |[],_,p,hp=>by simp at hp
 |(t,v)::r,h,p,hp=>by
  rcases List.mem_cons.1 hp with rfl|hp
  ·exact h.1
  ·exact lF h.2 p hp
theorem Tz {s:St} {e0:List (Nat×AV)} {nx0:Nat} (h0:Nat.ble n0 nx0=true) (h:okE s.e e0):Md K nt n0 s ⟨e0,[],nx0⟩:=iX (Nat.le_of_ble_eq_true h0) (lF h)
theorem Dx {e:List (Nat×AV)} {t:Nat} {v:AV} {r:List (Nat×AV)} (h:Fl e t=v) (h':clean v=true) (hr:okE e r):okE e ((t,v)::r):=⟨⟨h,h'⟩,hr⟩
end
end Go.Proofs.YtkdodbfnocdkdaaGreatDoor
set_option linter.unusedVariables false
set_option linter.unusedSimpArgs false
namespace Go.Proofs.YtkdodbfnocdkdaaGreatDoor
open Go.RowKit
structure En (α:Type) where
 size:Nat
 enc:α→List AV
 len:∀x,(enc x).length=size
 pos:0<size
 cell:∀x,(enc x).all Cl=true
 Q0:∀x,Bk (enc x)=true
 Uv:∀x,He (enc x)=enc x
def A0 {α:Type} (E:En α) (l:List α):List AV:=l.flatMap E.enc
abbrev Ar {α:Type} (E:En α) (l:List α):AV:=.Ec l.length (A0 E l) false
abbrev Aa (z:Int):AV:=.sc (.int .i64 z)
abbrev Ai (b:Bool):AV:=.sc (.bool b)
abbrev An (s:ByteArray):AV:=.sc (.string s)
section
variable {α:Type} {E:En α}
theorem Vj:A0 E []=[]:=rfl
theorem D4 (x:α) (l:List α):A0 E (x::l)=E.enc x++A0 E l:=rfl
theorem Ds (l k:List α):A0 E (l++k)=A0 E l++A0 E k:=by simp [A0]
theorem tG (x:α):A0 E [x]=E.enc x:=by simp [A0]
theorem Br (l:List α):(A0 E l).length=l.length*E.size:=by
 induction l with
 |nil=>simp [A0]
 |cons x l ih=>rw [D4,List.length_append,ih,E.len,List.length_cons,Nat.add_mul,Nat.one_mul,Nat.add_comm]
theorem Ij (l:List α) (i:Nat):(A0 E l).drop (i*E.size)=A0 E (l.drop i):=by
 induction l generalizing i with
 |nil=>simp [A0]
 |cons x l ih=>
  cases i with
  |zero=>simp
  |succ i=>
   rw [D4,List.drop_append,List.drop_succ_cons,E.len]
   have h1:(E.enc x).drop ((i+1)*E.size)=[]:=List.drop_eq_nil_of_le (by rw [E.len,Nat.add_mul];omega)
   have h2:(i+1)*E.size-E.size=i*E.size:=by rw [Nat.add_mul];omega
   rw [h1,h2,List.nil_append,ih]
theorem Ji (l:List α) (i:Nat):(A0 E l).take (i*E.size)=A0 E (l.take i):=by
 induction l generalizing i with
 |nil=>simp [A0]
 |cons x l ih=>
  cases i with
  |zero=>simp [A0]
  |succ i=>
   rw [D4,List.take_append,List.take_succ_cons,E.len,D4]
   have h1:(E.enc x).take ((i+1)*E.size)=E.enc x:=List.take_of_length_le (by rw [E.len,Nat.add_mul];omega)
   have h2:(i+1)*E.size-E.size=i*E.size:=by rw [Nat.add_mul];omega
   rw [h1,h2,ih]
theorem S2 (l:List α) (i:Nat) (h:i<l.length):elemAt E.size (A0 E l) i=E.enc l[i]:=by
 unfold elemAt
 rw [Ij,List.drop_eq_getElem_cons h,D4,List.take_append_of_le_length (by rw [E.len];exact Nat.le_refl _),List.take_of_length_le (by rw [E.len];exact Nat.le_refl _)]
theorem It:∀(a b:List AV),Bk (a++b)=(Bk a && Bk b)
 |[],b=>by simp [Bk]
 |x::a,b=>by simp [Bk,It a b,Bool.and_assoc]
theorem Q7:∀(a b:List AV),He (a++b)=He a++He b
 |[],b=>by simp [He]
 |x::a,b=>by simp [He,Q7 a b]
theorem Bz (l:List α):Bk (A0 E l)=true:=by
 induction l with
 |nil=>rfl
 |cons x l ih=>rw [D4,It,E.Q0,ih];rfl
theorem Hx (l:List α):He (A0 E l)=A0 E l:=by
 induction l with
 |nil=>rfl
 |cons x l ih=>rw [D4,Q7,E.Uv,ih]
theorem Ew (l:List α):(A0 E l).all Cl=true:=by
 induction l with
 |nil=>rfl
 |cons x l ih=>rw [D4,List.all_append,E.cell,ih];rfl
theorem Pw (look:Nat→Option Be) (k:Nat):∀(cs:List AV),cs.all Cl=true→Bk cs=true→J0 (freeze look (k+1)) cs=some cs
 |[],_,_=>rfl
 |x::cs,h1,h2=>by
  simp only [List.all_cons,Bool.and_eq_true] at h1
  simp only [Bk,Bool.and_eq_true] at h2
  have hx:freeze look (k+1) x=some x:=by
   cases x<;>simp [Cl] at h1<;>simp [clean] at h2<;>simp [freeze,clean,h2]
  unfold J0
  rw [hx,Pw look k cs h1.2 h2.2]
theorem Ur (look:Nat→Option Be) (k:Nat):∀(cs:List AV),cs.all Cl=true→(∀x∈cs,∀f l,x≠.fn f l)→Bk cs=true→J0 (snap look (k+1)) cs=some cs
 |[],_,_,_=>rfl
 |x::cs,h1,h3,h2=>by
  simp only [List.all_cons,Bool.and_eq_true] at h1
  simp only [Bk,Bool.and_eq_true] at h2
  have hx:snap look (k+1) x=some x:=by
   cases x with
   |fn f l=>exact absurd rfl (h3 _ (by simp) f l)
   |_=>simp [Cl] at h1<;>simp [clean] at h2<;>simp [snap,clean,h2]
  unfold J0
  rw [hx,Ur look k cs h1.2 (fun y hy=>h3 y (by simp [hy])) h2.2]
theorem Qz {b:Bool} {x y:Prop} (h1:b=true→x) (h2:b=false→y):bif b then x else y:=by cases b<;>simp_all
variable {P:Program} {look:Nat→Option Be} {t yt ty n:Nat}
theorem lS {op:BinOp} {a b v:Value} (h:L6 op a b=some v):Ce P (.binOp op t (.tmp 0) (.tmp 1) yt) ty [.sc a,.sc b] look n=some (.sc v,[]):=by simp [Ce,Pz,nR,Io,h]
theorem Q6 {sz:Nat} (hs:E.size=sz) (l:List α) (ex:Bool) (i:Nat) (h:i<l.length):De sz (.Ec l.length (A0 E l) ex) (.sc (.int .i64 (i:Int)))=some (.Cq (E.enc l[i]) 0,[]):=by
 subst hs
 have h1:decide ((0:Int)≤(i:Int))=true:=by simp
 have h2:decide ((i:Int)<(l.length:Int))=true:=by simpa using h
 simp only [De,h1,h2,Bool.true_or,Bool.and_self,cond_true,Int.toNat_natCast,S2 l i h]
theorem Zy {cs:List AV} {off:Nat} {x:AV} (h:cs[off]?=some x):Ek look (.Cq cs off)=some (x,[]):=by simp [Ek,h]
theorem Cf {id off:Nat} {b:Be} {x:AV} (hb:look id=some b) (h:b.cells[off]?=some x):Ek look (.ptr id off)=some (x,[]):=by simp [Ek,hb,h]
theorem wrap64 {z:Int} (h1: -9223372036854775808≤z) (h2:z≤9223372036854775807):IntKind.wrap .i64 z=z:=IntWalk.i64_in z ⟨h1,h2⟩
theorem tN {l:List α} {ex:Bool} {k:Bool→Prop} (h:∀b,(b=true→l=[])→k b):Ve (.Ec l.length (A0 E l) ex) k:=by
 cases l with
 |nil=>exact fun b=>h b fun _=>rfl
 |cons x l=>
  have hx:A0 E (x::l)≠[]:=by
   intro e
   have:=congrArg List.length e
   rw [Br] at this
   have hp:=E.pos
   simp only [List.length_cons,List.length_nil] at this
   have:(l.length+1)*E.size≥1*1:=Nat.mul_le_mul (by omega) hp
   omega
  unfold Ve
  split
  ·rename_i h';cases h'
  ·rename_i h'
   cases h'
   split
   ·rename_i h';exact absurd h' hx
   ·exact h false (fun h=>by cases h)
  ·rename_i h';cases h'
  ·rename_i h1 h2 h3;exact absurd rfl (h2 _ _ _)
theorem Abz {e sz by_:Nat} {zs:List AV} {m:Nat} {x:AV} (hs:E.size=sz) (l:List α) {ex:Bool} (h0:l≠[]) (hb:l.length*by_≤140737488355328) (hb2:l.length≤4611686018427387904) (hz:zs.length=sz) (id off cap:Nat) (b:Be) (hl:look id=some b) (hoff:off+0≤b.cells.length):
  app look e sz by_ zs m (.sl id off sz 0 0 true) (.Ec l.length (A0 E l) ex)=some (.sl m 0 sz l.length l.length false,[(m,some ⟨A0 E l,e⟩)]):=by
 subst hs
 have hp:=E.pos
 have hlen:0<l.length:=List.length_pos_iff.2 h0
 have c1:cellsOf look E.size (.Ec l.length (A0 E l) ex)=some (l.length,A0 E l):=by
  simp only [cellsOf,Br,Nat.beq_refl,cond_true]
 have c2:cellsOf look E.size (.sl id off E.size 0 0 true)=some (0,[]):=by
  have:Nat.ble (off+0) b.cells.length=true:=Nat.ble_eq_true_of_le hoff
  simp only [cellsOf,hl,Nat.zero_mul,this,Nat.beq_refl,Bool.true_or,Bool.and_self,cond_true,Nat.zero_mul,List.take_zero]
 have t1:Nat.beq l.length 0=false:=by
  cases h:Nat.beq l.length 0 with
  |false=>rfl
  |true=>have:=Nat.eq_of_beq_eq_true h;omega
 have t2:Nat.ble (l.length*by_) 140737488355328=true:=Nat.ble_eq_true_of_le hb
 have t3:Nat.ble l.length 4611686018427387904=true:=Nat.ble_eq_true_of_le (by omega)
 have t4:Nat.beq zs.length E.size=true:=by rw [hz];exact Nat.beq_refl _
 have t5:Nat.ble 1 E.size=true:=Nat.ble_eq_true_of_le hp
 have t6:Nat.beq (A0 E l).length (l.length*E.size)=true:=by rw [Br];exact Nat.beq_refl _
 have t7:Nat.beq ([]:List AV).length (0*E.size)=true:=by simp
 have t8:Nat.ble l.length 0=false:=by
  cases h:Nat.ble l.length 0 with
  |false=>rfl
  |true=>have:=Nat.le_of_ble_eq_true h;omega
 simp only [app,c1,c2,t1,cond_false,Nat.zero_add,t2,t3,t4,t5,t6,t7,t8,Ew,Bool.true_or,Bool.and_self,cond_true,Nat.zero_add,List.nil_append]
end
end Go.Proofs.YtkdodbfnocdkdaaGreatDoor
