/- A part. -/
import Derived.Test.YtmhnnmfcjdnlhaaGreatDoorPC
import Derived.IntWalk
set_option linter.unusedVariables false
set_option linter.unusedSimpArgs false
namespace Go.Proofs.YtmhnnmfcjdnlhaaGreatDoor
open Go.RowKit
section
variable {P:Program} {K:Jz}
def I5 (P:Program) (gl:Nat→Option (List AV)) (look:Nat→Option B5) (f:FuncId) (args:List AV) (v:AV):Prop:=
 G4 P f∧∀(B:Nat) (c:Cx) (vals:List Value),Good B c→Dr gl c→(∀id b,look id=some b→c.M id=some b)→Cf c args vals→Calls P f vals.toArray c.w (Nj B c v)
def E3 (P:Program) (gl:Nat→Option (List AV)) (look:Nat→Option B5) (n:Nat) (f:FuncId) (args:List AV) (v:AV) (d:Wr):Prop:=
 G4 P f∧∀(B:Nat) (c:Cx) (vals:List Value),Good B c→Dr gl c→¬c.al n→(∀id b,look id=some b→c.M id=some b)→Cf c args vals→Calls P f vals.toArray c.w (Ej B c n v d)
theorem I5.toD {gl:Nat→Option (List AV)} {look:Nat→Option B5} {n:Nat} {f:FuncId} {args:List AV} {v:AV} (h:I5 P gl look f args v):E3 P gl look n f args v []:=⟨h.1,fun B c vals g hgl hn hl hr=>(h.2 B c vals g hgl hl hr).mono fun _ _ h=>h.toD⟩
def Dc (P:Program) (gl:Nat→Option (List AV)) (f:FuncId) (args:List AV) (v:AV):Prop:=Av args=true∧clean v=true∧I5 P gl (fun _=>none) f args v
def evalsTo (P:Program) (K:Jz) (k:Nat) (f:FuncId):Option Bool:=
 match Aeh P K k f [] [] 0 with
 |some (.sc (.bool b),_,_)=>some b
 |_=>none
end
end Go.Proofs.YtmhnnmfcjdnlhaaGreatDoor
set_option linter.unusedVariables false
set_option linter.unusedSimpArgs false
namespace Go.Proofs.YtmhnnmfcjdnlhaaGreatDoor
open Go.RowKit
abbrev Mem:=List (Nat×Option B5)
def Aa3:Op→Bool
 |.alloc _=>true
 |.box _ _=>true
 |.store ..=>true
 |.buildSlice ..=>true
 |.makeSlice ..=>true
 |.call c=>match c.callee with
  |.builtin .append=>true
  |.builtin .copy=>true
  |.builtin .clear=>true
  |_=>false
 |_=>false
def oT:Op→Bool
 |.call {callee:=.value (.func f),..}=>wcall f
 |_=>false
def Aet (o:Oper):Bool:=Aa3 o.op||oT o.op
def Bo (r:Ie) (k:AV→Prop):Prop:=match r with
 |some (v,[])=>k v
 |_=>False
def J4 (r:Ie) (k:AV→Wr→Prop):Prop:=match r with
 |some (v,d)=>k v d
 |none=>False
def spl (v:AV) (x y:Prop):Prop:=match v with
 |.sc (.bool b)=>bif b then x else y
 |_=>False
def s9 (ops:Array Oper) (i:Nat):Bool:=ops.toList.any fun o=>match o.guard with
 |some (j,_)=>Nat.beq j i
 |none=>false
def Jg (g:Bool) (v:AV) (k:AV→Prop):Prop:=bif g then spl v (k (.sc (.bool true))) (k (.sc (.bool false))) else k v
def Nv (nt:Nat) (e:List (Nat×AV)) (dst:Option Nat) (v:AV) (k:List (Nat×AV)→Prop):Prop:=match Oj nt e dst v with
 |some e=>k e
 |none=>False
def Ez (P:Program) (gl:Nat→Option (List AV)) (m:Mem) (nx:Nat) (f:FuncId) (args:List AV) (k:AV→Mem→Prop):Prop:=
 G4 P f∧∀(B:Nat) (c:Cx) (vals:List Value),Good B c→Dr gl c→(∀id,c.M id=Am m id)→(∀id,c.al id→id<nx)→Cf c args vals→Calls P f vals.toArray c.w (fun e w'=>∃v m',k v m'∧Hn B c v m' (nx+64) e w')
def Bd (P:Program) (gl:Nat→Option (List AV)) (m:Mem) (f:FuncId) (args:List AV) (k:AV→Prop):Prop:=∃v,(I5 P gl (Am m) f args v∨bN P (Am m) f args v)∧k v
def dG (P:Program) (gl:Nat→Option (List AV)) (m:Mem) (n:Nat) (f:FuncId) (args:List AV) (k:AV→Wr→List Nat→Prop):Prop:=∃v d ft,(E3 P gl (Dw m ft) n f args v d∨(bN P (Dw m ft) f args v∧d=[]))∧k v d ft
def Jt (g:Option AV) (ar:Option (List AV)) (k:FuncId→List AV→Prop):Prop:=match g,ar with
 |some (.fn f caps),some ar=>k f (ar++caps)
 |_,_=>False
inductive aA where
 |any
 |int (k:IntKind)
 |bool
 |str
 |flt
 |agg (l:List aA)
 |B4 (l:List aA)
def mR:aA→List aA
 |.agg l=>l
 |s=>[s]
def shapeOf (P:Program):Nat→TypeId→aA
 |0,_=> .any
 |f+1,t=>match P.underlying t with
  |some (.int k)=> .int k
  |some .bool=> .bool
  |some .string=> .str
  |some (.float .f64)=> .flt
  |some (.struct fs)=> .agg (fs.toList.flatMap fun fd=>mR (shapeOf P f fd.type))
  |some (.array n e)=> .agg ((List.replicate n (mR (shapeOf P f e))).flatten)
  |some (.tuple ts)=> .B4 (ts.toList.map (shapeOf P f))
  |_=> .any
def iY:aA→aA
 |.agg l=>bif Nat.ble l.length 24 then .agg l else .any
 |s=>s
def Yf (P:Program) (t:TypeId):aA:=match shapeOf P 8 t with
 |.B4 l=> .B4 (l.map iY)
 |s=>iY s
def xK (v:AV) (k:Int→Prop):Prop:=match v with
 |.sc (.int .i8 z)=>k z
 |_=>False
def j0 (v:AV) (k:Int→Prop):Prop:=match v with
 |.sc (.int .i16 z)=>k z
 |_=>False
def j9 (v:AV) (k:Int→Prop):Prop:=match v with
 |.sc (.int .i32 z)=>k z
 |_=>False
def Af (v:AV) (k:Int→Prop):Prop:=match v with
 |.sc (.int .i64 z)=>k z
 |_=>False
def bW (v:AV) (k:Int→Prop):Prop:=match v with
 |.sc (.int .u8 z)=>k z
 |_=>False
def mO (v:AV) (k:Int→Prop):Prop:=match v with
 |.sc (.int .u16 z)=>k z
 |_=>False
def lC (v:AV) (k:Int→Prop):Prop:=match v with
 |.sc (.int .u32 z)=>k z
 |_=>False
def D7 (v:AV) (k:Int→Prop):Prop:=match v with
 |.sc (.int .u64 z)=>k z
 |_=>False
def exK:IntKind→AV→(Int→Prop)→Prop
 |.i8,v,q=>xK v q
 |.i16,v,q=>j0 v q
 |.i32,v,q=>j9 v q
 |.i64,v,q=>Af v q
 |.u8,v,q=>bW v q
 |.u16,v,q=>mO v q
 |.u32,v,q=>lC v q
 |.u64,v,q=>D7 v q
def Hr (v:AV) (k:Bool→Prop):Prop:=match v with
 |.sc (.bool b)=>k b
 |_=>False
def Em (v:AV) (k:ByteArray→Prop):Prop:=match v with
 |.sc (.string s)=>k s
 |_=>False
def Gv (v:AV) (k:Nat→Prop):Prop:=match v with
 |.sc (.float .f64 x)=>k x
 |_=>False
def exL:Nat→List AV→(List AV→Prop)→Prop
 |0=>fun cs k=>match cs with
  |[]=>k []
  |_::_=>False
 |n+1=>fun cs k=>match cs with
  |[]=>False
  |x::xs=>exL n xs fun l=>k (x::l)
def Fx (n:Nat) (v:AV) (k:List AV→Prop):Prop:=match v with
 |.agg cs=>exL n cs k
 |_=>False
def Mu (n:Nat) (v:AV) (k:List AV→Prop):Prop:=match v with
 |.B4 cs=>exL n cs k
 |_=>False
def On (f:aA→AV→(AV→Prop)→Prop):List aA→List AV→(List AV→Prop)→Prop
 |s::ss,x::xs,k=>f s x fun y=>On f ss xs fun ys=>k (y::ys)
 |[],[],k=>k []
 |_,_,_=>False
def Ls:Nat→aA→AV→(AV→Prop)→Prop
 |0,_,v,k=>k v
 |_+1,.any,v,k=>k v
 |_+1,.int ik,v,k=>exK ik v fun z=>k (.sc (.int ik z))
 |_+1,.bool,v,k=>Hr v fun b=>k (.sc (.bool b))
 |_+1,.str,v,k=>Em v fun s=>k (.sc (.string s))
 |_+1,.flt,v,k=>Gv v fun x=>k (.sc (.float .f64 x))
 |f+1,.agg l,v,k=>Fx l.length v fun cs=>On (Ls f) l cs fun cs=>k (.agg cs)
 |f+1,.B4 l,v,k=>Mu l.length v fun cs=>On (Ls f) l cs fun cs=>k (.B4 cs)
def Hg (P:Program) (o:Oper):aA:=match o.op with
 |.load t _=>Yf P t
 |.call _=>Yf P o.type
 |.convert _ d _=>Yf P d
 |.index ..=>Yf P o.type
 |.field ..=>Yf P o.type
 |.unOp _ t _=>Yf P t
 |.binOp op t _ _ _=>(match op with
  |.eql=> .bool
  |.neq=> .bool
  |.lss=> .bool
  |.leq=> .bool
  |.gtr=> .bool
  |.geq=> .bool
  |_=>Yf P t)
 |_=> .any
theorem gD {ik:IntKind} {v:AV} {k:AV→Prop} (h:exK ik v fun z=>k (.sc (.int ik z))):k v:=by
 cases ik<;>(simp only [exK,xK,j0,j9,Af,bW,mO,lC,D7] at h;split at h;(exact h);(exact h.elim))
theorem Qz:∀{n:Nat} {cs:List AV} {k:List AV→Prop},exL n cs k→k cs
 |0,[],k,h=>h
 |n+1,x::xs,k,h=>Qz (n:=n) (cs:=xs) (k:=fun l=>k (x::l)) h
 |0,_::_,k,h=>by simp [exL] at h
 |_+1,[],k,h=>by simp [exL] at h
theorem Lw {f:aA→AV→(AV→Prop)→Prop} (hf:∀s v k,f s v k→k v):∀{ss:List aA} {cs:List AV} {k:List AV→Prop},On f ss cs k→k cs
 |s::ss,x::xs,k,h=>Lw hf (ss:=ss) (cs:=xs) (k:=fun ys=>k (x::ys)) (hf s x _ h)
 |[],[],k,h=>h
 |[],_::_,k,h=>by simp [On] at h
 |_::_,[],k,h=>by simp [On] at h
theorem Kc:∀(f:Nat) (s:aA) (v:AV) (k:AV→Prop),Ls f s v k→k v
 |0,_,v,k,h=>h
 |_+1,.any,v,k,h=>h
 |_+1,.int ik,v,k,h=>gD h
 |_+1,.bool,v,k,h=>by
  simp only [Ls,Hr] at h
  split at h
  ·exact h
  ·exact h.elim
 |_+1,.str,v,k,h=>by
  simp only [Ls,Em] at h
  split at h
  ·exact h
  ·exact h.elim
 |_+1,.flt,v,k,h=>by
  simp only [Ls,Gv] at h
  split at h
  ·exact h
  ·exact h.elim
 |f+1,.agg l,v,k,h=>by
  simp only [Ls,Fx] at h
  split at h
  ·exact Lw (Kc f) (Qz h)
  ·exact h.elim
 |f+1,.B4 l,v,k,h=>by
  simp only [Ls,Mu] at h
  split at h
  ·exact Lw (Kc f) (Qz h)
  ·exact h.elim
def Ag (m:Mem):Wr→Mem
 |[]=>m
 |p::r=>Ag (p::m) r
theorem Ly (d:Wr):∀(m:Mem) (id:Nat),Am (Ag m d) id=Uj (Am m) d id:=by
 induction d with
 |nil=>intro m id;rfl
 |cons p r ih=>
  obtain ⟨i,v⟩:=p
  intro m id
  unfold Ag Uj
  rw [ih]
  congr 1
  funext k
  show (bif Nat.beq i k then v else Am m k)=_
  cases h:Nat.beq i k with
  |true=>simp [beq_true h]
  |false=>have:=beq_false h;simp only [cond_false];rw [if_neg (fun e=>this e.symm)]
def Jj (b:Bool) (p:Prop):Prop:=bif b then p else False
def Ve:List AV→Prop→Prop
 |[],p=>p
 |x::r,p=>Jj (Cq x) (Ve r p)
def Na (P:Program) (t:TypeId) (x:AV) (k:List AV→Prop):Prop:=match P.underlying t with
 |some d=>bif Hz d then (match x,D5 P t with
   |.agg cs,some n=>Jj (Nat.beq cs.length n) (Ve cs (k cs))
   |_,_=>False) else (match D5 P t with
   |some 1=>Jj (Cq x) (k [x])
   |_=>False)
 |none=>False
def Cw (P:Program) (look:Nat→Option B5) (t:TypeId) (a x:AV) (k:AV→Wr→Prop):Prop:=match a with
 |.ptr id off=>(match look id with
  |some b=>Na P t x fun cs=>Jj (Nat.ble (off+cs.length) b.cells.length) (k .E9 [(id,some ⟨Eg b.cells off cs,b.ty⟩)])
  |none=>False)
 |_=>False
def zL (P:Program) (t:TypeId) (n:Nat) (x:AV) (k:AV→Wr→Prop):Prop:=Na P t x fun cs=>k (.ptr n 0) [(n,some ⟨cs,t⟩)]
section
variable (P:Program) (K:Jz) (nt:Nat) (ops:Array Oper)
def Yb (x:AV) (k:Bool→Prop):Prop:=match x with
 |.B1=>k true
 |.Ek _ cs _=>(match cs with
  |[]=>∀b,k b
  |_::_=>k false)
 |.sl ..=>k false
 |_=>False
def Ph:Operand→Bool
 |.const (.slice none 0 0)=>true
 |_=>false
def Uk (P:Program) (t:TypeId):Bool:=match P.underlying t with
 |some (.slice _)=>true
 |_=>false
def opW (s:St) (o:Oper) (k:AV→Mem→Nat→Prop):Prop:=
 match o.op with
 |.call {callee:=.value g,args,..}=>Jt (Ir K.gl s.e g) (opts (Ir K.gl s.e) args.toList) fun f ar=>bif K.pm f then Bd P K.gl s.m f ar (fun v=>k v s.m (s.nx+64)) else Ez P K.gl s.m s.nx f ar (fun v m=>k v m (s.nx+64))
 |.store t a x=>(match Ir K.gl s.e a,Ir K.gl s.e x with
  |some a,some x=>Cw P (Am s.m) t a x fun v d=>k v (Ag s.m d) (s.nx+1)
  |_,_=>False)
 |.box t x=>(match Ir K.gl s.e x with
  |some x=>zL P t s.nx x fun v d=>k v (Ag s.m d) (s.nx+1)
  |none=>False)
 |.binOp .eql t x y _=>bif Uk P t && Ph y then (match Ir K.gl s.e x with
   |some x=>Yb x fun b=>k (.sc (.bool b)) s.m (s.nx+1)
   |none=>False) else Bo (Nx P (Ir K.gl s.e) (Am s.m) s.nx o) fun v=>k v s.m (s.nx+1)
 |.binOp .neq t x y _=>bif Uk P t && Ph y then (match Ir K.gl s.e x with
   |some x=>Yb x fun b=>k (.sc (.bool (!b))) s.m (s.nx+1)
   |none=>False) else Bo (Nx P (Ir K.gl s.e) (Am s.m) s.nx o) fun v=>k v s.m (s.nx+1)
 |op=>bif Aa3 op then J4 (Nx P (Ir K.gl s.e) (Am s.m) s.nx o) fun v d=>k v (Ag s.m d) (s.nx+1) else Bo (Nx P (Ir K.gl s.e) (Am s.m) s.nx o) fun v=>k v s.m (s.nx+1)
def opQ (s:St) (o:Oper) (k:AV→Prop):Prop:=
 match o.op with
 |.call {callee:=.value g,args,..}=>Jt (Ir K.gl s.e g) (opts (Ir K.gl s.e) args.toList) fun f ar=>Bd P K.gl s.m f ar k
 |_=>Bo (Nx P (Ir K.gl s.e) (Am s.m) s.nx o) k
def opF (s:St) (o:Oper) (k:AV→Wr→List Nat→Prop):Prop:=
 match o.op with
 |.call {callee:=.value g,args,..}=>Jt (Ir K.gl s.e g) (opts (Ir K.gl s.e) args.toList) fun f ar=>dG P K.gl s.m s.nx f ar k
 |.store t a x=>(match Ir K.gl s.e a,Ir K.gl s.e x with
  |some a,some x=>Cw P (Dw s.m (Ub (Ir K.gl s.e) o)) t a x fun v d=>k v d (Ub (Ir K.gl s.e) o)
  |_,_=>False)
 |.box t x=>(match Ir K.gl s.e x with
  |some x=>zL P t s.nx x fun v d=>k v d (Ub (Ir K.gl s.e) o)
  |none=>False)
 |_=>J4 (Nx P (Ir K.gl s.e) (Dw s.m (Ub (Ir K.gl s.e) o)) s.nx o) fun v d=>k v d (Ub (Ir K.gl s.e) o)
def WS:List Oper→Nat→St→(St→Prop)→Prop
 |[],_,s,Q=>Q s
 |o::r,i,s,Q=>match Ia ops s.e o with
  |some true=>opW P K s o fun v m nx=>Ls 4 (Hg P o) v fun v=>Jg (s9 ops i) v fun v=>Nv nt s.e o.dst v fun e=>WS r (i+1) ⟨e,m,nx⟩ Q
  |some false=>Nv nt s.e o.dst (.B4 []) fun e=>WS r (i+1) ⟨e,s.m,s.nx⟩ Q
  |none=>False
def WQ:List Oper→Nat→St→(St→Prop)→Prop
 |[],_,s,Q=>Q s
 |o::r,i,s,Q=>match Ia ops s.e o with
  |some true=>opQ P K s o fun v=>Ls 4 (Hg P o) v fun v=>Jg (s9 ops i) v fun v=>Nv nt s.e o.dst v fun e=>WQ r (i+1) ⟨e,s.m,s.nx+1⟩ Q
  |some false=>Nv nt s.e o.dst (.B4 []) fun e=>WQ r (i+1) ⟨e,s.m,s.nx+1⟩ Q
  |none=>False
def WF (ms:List Nat):List Oper→Nat→St→List Rec→(St→Prop)→Prop
 |[],_,s,rs,Q=>Jj (F4 ms rs) (Q s)
 |o::r,i,s,rs,Q=>match Ia ops s.e o with
  |some true=>opF P K s o fun v d ft=>Ls 4 (Hg P o) v fun v=>Jg (s9 ops i) v fun v=>Nv nt s.e o.dst v fun e=>WF ms r (i+1) ⟨e,Ag s.m d,s.nx+1⟩ (rs++[⟨d,ft⟩]) Q
  |some false=>Nv nt s.e o.dst (.B4 []) fun e=>WF ms r (i+1) ⟨e,s.m,s.nx+1⟩ (rs++[⟨[],[]⟩]) Q
  |none=>False
def WR (draw:Bool) (s:St) (Q:St→Prop):Prop:=
 bif draw then Jj (Vf ops (Gh ops.toList [])) (bif ops.toList.any Aet then WF P K nt ops (Gh ops.toList []) ops.toList 0 s [] Q else WQ P K nt ops ops.toList 0 s Q)
 else WS P K nt ops ops.toList 0 s Q
end
def W (P:Program) (K:Jz) (nt n0:Nat):Code→St→(Bh→St→Prop)→Prop
 |.skip,s,Q=>Q .normal s
 |.region _ ops d,s,Q=>WR P K nt ops d s (Q .normal)
 |.seq a b,s,Q=>W P K nt n0 a s (Ex (fun s'=>W P K nt n0 b s' Q) Q)
 |.cond c a b,s,Q=>match Ir K.gl s.e c with
  |some v=>spl v (W P K nt n0 a s Q) (W P K nt n0 b s Q)
  |none=>False
 |.block id b,s,Q=>W P K nt n0 b s (Sf id Q)
 |.loop b,s,Q=>C6 P K nt n0 (.loop b) s Q
 |.exit id,s,Q=>Q (.exit id) s
 |.ret,s,Q=>Q .ret s
 |.label _,s,Q=>Q .normal s
 |_,_,_=>False
section
variable {P:Program} {K:Jz} {nt n0:Nat} {ops:Array Oper}
theorem No {r:Ie} {k:AV→Prop} (h:Bo r k):∃v,r=some (v,[])∧k v:=by
 unfold Bo at h
 split at h
 ·exact ⟨_,rfl,h⟩
 ·exact h.elim
theorem W2 {r:Ie} {k:AV→Wr→Prop} (h:J4 r k):∃v d,r=some (v,d)∧k v d:=by
 unfold J4 at h
 split at h
 ·exact ⟨_,_,rfl,h⟩
 ·exact h.elim
theorem W6 {v:AV} {x y:Prop} (h:spl v x y):∃b,v=.sc (.bool b)∧(b=true→x)∧(b=false→y):=by
 unfold spl at h
 split at h
 ·rename_i b
  refine ⟨b,rfl,?_,?_⟩
  ·rintro rfl;exact h
  ·rintro rfl;exact h
 ·exact h.elim
theorem L2 {g:Bool} {v:AV} {k:AV→Prop} (h:Jg g v k):k v:=by
 unfold Jg at h
 cases g with
 |false=>exact h
 |true=>
  obtain ⟨b,rfl,h1,h2⟩:=W6 h
  cases b with
  |true=>exact h1 rfl
  |false=>exact h2 rfl
theorem Iw {nt:Nat} {e:List (Nat×AV)} {dst:Option Nat} {v:AV} {k:List (Nat×AV)→Prop} (h:Nv nt e dst v k):∃e',Oj nt e dst v=some e'∧k e':=by
 unfold Nv at h
 split at h
 ·rename_i e' he;exact ⟨e',he,h⟩
 ·exact h.elim
theorem Rl {b:Bool} {p:Prop} (h:Jj b p):b=true∧p:=by
 unfold Jj at h
 cases b with
 |true=>exact ⟨rfl,h⟩
 |false=>exact h.elim
theorem Lk {g:Option AV} {ar:Option (List AV)} {k:FuncId→List AV→Prop} (h:Jt g ar k):∃f caps l,g=some (.fn f caps)∧ar=some l∧k f (l++caps):=by
 unfold Jt at h
 split at h
 ·exact ⟨_,_,_,rfl,rfl,h⟩
 ·exact h.elim
theorem L9 {b:Bool} {p:Prop} (h:Jj b p):b=true∧p:=by
 unfold Jj at h
 cases b with
 |true=>exact ⟨rfl,h⟩
 |false=>exact h.elim
theorem Po:∀{cs:List AV} {p:Prop},Ve cs p→cs.all Cq=true∧p
 |[],p,h=>⟨rfl,h⟩
 |x::r,p,h=>by
  obtain ⟨h1,h2⟩:=L9 h
  obtain ⟨h3,h4⟩:=Po h2
  exact ⟨by simp [h1,h3],h4⟩
theorem Pv {t:TypeId} {x:AV} {k:List AV→Prop} (h:Na P t x k):∃cs n,Dl x=some cs∧D5 P t=some n∧cs.length=n∧cs.all Cq=true∧k cs:=by
 unfold Na at h
 split at h
 ·rename_i d hd
  cases hg:Hz d with
  |true=>
   rw [hg] at h
   simp only [cond_true] at h
   split at h
   ·rename_i cs n hn
    obtain ⟨h1,h2⟩:=L9 h
    obtain ⟨h3,h4⟩:=Po h2
    exact ⟨cs,n,rfl,hn,Nat.eq_of_beq_eq_true h1,h3,h4⟩
   ·exact h.elim
  |false=>
   rw [hg] at h
   simp only [cond_false] at h
   split at h
   ·rename_i hn
    obtain ⟨h1,h2⟩:=L9 h
    refine ⟨[x],1,?_,hn,rfl,by simp [h1],h2⟩
    cases x<;>simp [Cq] at h1<;>rfl
   ·exact h.elim
 ·exact h.elim
theorem P0 {look:Nat→Option B5} {t:TypeId} {a x:AV} {k:AV→Wr→Prop} (h:Cw P look t a x k):∃v d,Rw P look t a x=some (v,d)∧k v d:=by
 unfold Cw at h
 split at h
 ·rename_i id off
  split at h
  ·rename_i b hb
   obtain ⟨cs,n,h1,h2,h3,h4,h5⟩:=Pv h
   obtain ⟨h6,h7⟩:=L9 h5
   refine ⟨_,_,?_,h7⟩
   have h3':Nat.beq cs.length n=true:=by rw [h3];exact Nat.beq_refl n
   unfold Rw
   simp only [h1,h2,hb,h3',h6,h4,Bool.true_or,Bool.and_self,cond_true]
  ·exact h.elim
 ·exact h.elim
theorem Th {t:TypeId} {n:Nat} {x:AV} {k:AV→Wr→Prop} (h:zL P t n x k):∃cs,Dl x=some cs∧k (.ptr n 0) [(n,some ⟨cs,t⟩)]:=by
 obtain ⟨cs,m,h1,h2,h3,h4,h5⟩:=Pv h
 exact ⟨cs,h1,h5⟩
theorem Ua {c:Cx} {x:AV} {k:Bool→Prop} (h:Yb x k) {v:Value} (r:B9 c x v):∃a n cap,v=.slice a n cap∧k a.isNone:=by
 unfold Yb at h
 split at h
 ·cases r;exact ⟨none,0,0,rfl,h⟩
 ·split at h
  ·cases r with
   |Ga a cap ex he hm hn=>exact ⟨a,0,cap,rfl,h _⟩
   |Ek hb hr hc hn he hm=>exact ⟨_,_,_,rfl,h _⟩
  ·cases r with
   |Ek hb hr hc hn he hm=>exact ⟨_,_,_,rfl,h⟩
 ·cases r;exact ⟨_,_,_,rfl,h⟩
 ·exact h.elim
theorem Uo {y:Operand} (h:Ph y=true):y=.const (.slice none 0 0):=by
 unfold Ph at h
 split at h
 ·rfl
 ·cases h
theorem X9 {t:TypeId} (h:Uk P t=true):∃e,P.underlying t=some (.slice e):=by
 unfold Uk at h
 split at h
 ·rename_i e he;exact ⟨e,he⟩
 ·cases h
theorem jL {R:St→Prop} {B:Nat} {c0:Cx} (hn:∀id,c0.al id→id<n0):∀(rest pre:List Oper) {s:St} {c:Cx} {a:Act},ops.toList=pre++rest→WS P K nt ops rest pre.length s R→SR K.gl B nt c s a→Step c0 c→
  wpOps P ops (Ul K nt B c0 (fun x s=>x=.normal∧R s)) (List.range' pre.length rest.length) a c.w
 |[],pre,s,c,a,hops,h,sr,st=>⟨.normal,s,c,rfl,⟨rfl,h⟩,sr,rfl,st⟩
 |o::r,pre,s,c,a,hops,h,sr,st=>by
  have hget:ops[pre.length]?=some o:=by rw [← Array.getElem?_toList,hops];simp
  have hops':ops.toList=(pre++[o])++r:=by rw [hops];simp
  simp only [List.length_cons,List.range'_succ]
  unfold wpOps
  simp only [hget]
  unfold WS at h
  split at h
  ·rename_i hw
   rw [Kb (fun t _ _ _ _=>sr.e t) hw]
   simp only [if_true]
   left
   have fin:∀(c1:Cx) (v:AV) (v':Value) (m':Mem) (nx':Nat),(Ls 4 (Hg P o) v fun v=>Jg (s9 ops pre.length) v fun v=>Nv nt s.e o.dst v fun e=>WS P K nt ops r (pre.length+1) ⟨e,m',nx'⟩ R)→B9 c1 v v'→Step c c1→Good B c1→(∀id,c1.M id=Am m' id)→(∀id,c1.al id→id<nx')→wpOps P ops (Ul K nt B c0 (fun x s=>x=.normal∧R s)) (List.range' (pre.length+1) r.length) (a.put o.dst v') c1.w:=by
    intro c1 v v' m' nx' hk k1 k2 k3 k4 k5
    obtain ⟨e',hput,hrest⟩:=Iw (L2 (Kc 4 _ _ _ hk))
    have sr1:SR K.gl B nt c1 ⟨e',m',nx'⟩ (a.put o.dst v'):=⟨k3,Nm hput sr.sz (fun t=>(sr.e t).step k2) k1,k4,k5,L4.trans sr.sz,put_defers.trans sr.df,sr.gl.step k2⟩
    have:=jL hn r (pre++[o]) hops' (by simpa using hrest) sr1 (st.trans k2)
    simpa using this
   have plain:∀(v:AV) (d:Wr),Nx P (Ir K.gl s.e) (Am s.m) s.nx o=some (v,d)→(Ls 4 (Hg P o) v fun v=>Jg (s9 ops pre.length) v fun v=>Nv nt s.e o.dst v fun e=>WS P K nt ops r (pre.length+1) ⟨e,Ag s.m d,s.nx+1⟩ R)→o.wp P a c.w (wpOps P ops (Ul K nt B c0 (fun x s=>x=.normal∧R s)) (List.range' (pre.length+1) r.length)) (Ul K nt B c0 (fun x s=>x=.normal∧R s)):=by
    intro v d ha hk
    refine E8.Nx ha B c a _ _ sr.g sr.gl (fun h=>Nat.lt_irrefl _ (sr.al _ h)) (fun id b h=>by rw [sr.m];exact h) (fun x _ y hy=>Hh sr.gl (fun t _=>sr.e t) hy) ?_
    intro c1 v' k1 k2 k3 k4 k5 k6
    exact fin c1 v v' _ _ hk k1 k2 k3 (fun id=>by rw [k4,Ly];exact Pc d sr.m id) (fun id h=>by
     rcases k5 id h with h|rfl
     ·exact Nat.lt_succ_of_lt (sr.al id h)
     ·exact Nat.lt_succ_self _)
   unfold opW at h
   split at h
   ·rename_i gg args ats ho
    obtain ⟨f,caps,l,h1,h2,h3⟩:=Lk h
    have hcw:Ez P K.gl s.m s.nx f (l++caps) (fun v m=>Ls 4 (Hg P o) v fun v=>Jg (s9 ops pre.length) v fun v=>Nv nt s.e o.dst v fun e=>WS P K nt ops r (pre.length+1) ⟨e,m,s.nx+64⟩ R)∨∃v,bN P (Am s.m) f (l++caps) v∧Ls 4 (Hg P o) v fun v=>Jg (s9 ops pre.length) v fun v=>Nv nt s.e o.dst v fun e=>WS P K nt ops r (pre.length+1) ⟨e,s.m,s.nx+64⟩ R:=by
     cases hpm:K.pm f with
     |false=>rw [hpm] at h3;exact .inl h3
     |true=>
      rw [hpm] at h3
      obtain ⟨v,hpo,hk⟩:=h3
      rcases hpo with ⟨hp,hc⟩|hod
      ·exact .inl ⟨hp,fun B c vals g hgl hM ha hr=>(hc B c vals g hgl (fun id b hb=>by rw [hM];exact hb) hr).mono fun e w' ⟨v',c',h1,h2,h3,h4,h5,h6,h7⟩=>
        ⟨v,s.m,hk,v',c',h1,h2,h3,h4,h5,fun id=>by rw [h6,hM],fun id h=>by have:=ha id ((h7 id).1 h);omega⟩⟩
      ·exact .inr ⟨v,hod,hk⟩
    rcases hcw with ⟨hp,hc⟩|⟨v,hod,hk⟩
    ·have hg:=Hh (c:=c) (a:=a) sr.gl (fun t _=>sr.e t) h1
     generalize hgv:a.eval gg=u at hg
     cases hg with
     |fn f hcaps=>
      have hargs:=Ke (c:=c) (ev:=a.eval) (fun x _ y hy=>Hh sr.gl (fun t _=>sr.e t) hy) h2
      refine Vl ho hgv hp (hc B c _ sr.g sr.gl sr.m sr.al (hargs.append hcaps)) ?_
      rintro e2 w' ⟨v,m',hk,v',c',rfl,rfl,k1,k2,k3,k4,k5⟩
      exact ⟨v',rfl,fin c' v v' m' _ hk k1 k2 k3 k4 k5⟩
    ·refine E8.over ho h1 h2 hod B c a _ _ sr.g sr.gl (fun h=>Nat.lt_irrefl _ (sr.al _ h)) (fun id b h=>by rw [sr.m];exact h) (fun x _ y hy=>Hh sr.gl (fun t _=>sr.e t) hy) ?_
     intro c1 v' k1 k2 k3 k4 k5 k6
     exact fin c1 v v' s.m (s.nx+64) hk k1 k2 k3 (fun id=>by rw [k4];exact sr.m id) (fun id h=>by
      rcases k5 id h with h|rfl
      ·have:=sr.al id h;omega
      ·omega)
   ·rename_i t x y ho
    split at h
    ·rename_i a1 x1 h1 h2
     obtain ⟨v,d,hs,hk⟩:=P0 h
     exact plain v d (by simp only [Nx,ho,h1,h2,hs]) hk
    ·exact h.elim
   ·rename_i t x ho
    split at h
    ·rename_i x1 h1
     obtain ⟨cs,hs,hk⟩:=Th h
     exact plain _ _ (by simp only [Nx,ho,h1,Option.bind_some,hs]) hk
    ·exact h.elim
   ·rename_i t x y yt ho
    cases hq:(Uk P t && Ph y) with
    |false=>
     rw [hq] at h
     obtain ⟨v,ha,hk⟩:=No h
     exact plain v [] ha hk
    |true=>
     rw [hq] at h
     simp only [Bool.and_eq_true] at hq
     obtain ⟨e0,hu⟩:=X9 hq.1
     have hy:=Uo hq.2
     subst hy
     simp only [cond_true] at h
     split at h
     ·rename_i x1 h1
      have hx:=Hh (c:=c) (a:=a) sr.gl (fun t _=>sr.e t) h1
      obtain ⟨a1,n1,cap1,hv,hk⟩:=Ua h hx
      have hrun:(execOp a.eval o).run P c.w=.ok (.value (.bool a1.isNone)) c.w:=by
       have e1:a.eval (.const (.slice none 0 0))=.slice none 0 0:=rfl
       have e2:=Ij (P:=P) hu (a:=a1) (b:=none) (k:=n1) (q:=cap1) (k':=0) (q':=0) (.inr rfl) c.w
       simp only [Option.isNone_none,Bool.and_true] at e2
       simp [execOp,ho,hv,e1,eqGuard,binOp,e2]
      unfold Oper.wp
      rw [hrun]
      exact fin (c.tick s.nx) _ _ _ _ hk (.sc _ rfl) (Hx c _) (Mo sr.g _) sr.m (fun id h=>by
       rcases h with h|rfl
       ·exact Nat.lt_succ_of_lt (sr.al id h)
       ·exact Nat.lt_succ_self _)
     ·exact h.elim
   ·rename_i t x y yt ho
    cases hq:(Uk P t && Ph y) with
    |false=>
     rw [hq] at h
     obtain ⟨v,ha,hk⟩:=No h
     exact plain v [] ha hk
    |true=>
     rw [hq] at h
     simp only [Bool.and_eq_true] at hq
     obtain ⟨e0,hu⟩:=X9 hq.1
     have hy:=Uo hq.2
     subst hy
     simp only [cond_true] at h
     split at h
     ·rename_i x1 h1
      have hx:=Hh (c:=c) (a:=a) sr.gl (fun t _=>sr.e t) h1
      obtain ⟨a1,n1,cap1,hv,hk⟩:=Ua h hx
      have hrun:(execOp a.eval o).run P c.w=.ok (.value (.bool (!a1.isNone))) c.w:=by
       have e1:a.eval (.const (.slice none 0 0))=.slice none 0 0:=rfl
       have e2:=Ij (P:=P) hu (a:=a1) (b:=none) (k:=n1) (q:=cap1) (k':=0) (q':=0) (.inr rfl) c.w
       simp only [Option.isNone_none,Bool.and_true] at e2
       simp [execOp,ho,hv,e1,eqGuard,binOp,e2]
      unfold Oper.wp
      rw [hrun]
      exact fin (c.tick s.nx) _ _ _ _ hk (.sc _ rfl) (Hx c _) (Mo sr.g _) sr.m (fun id h=>by
       rcases h with h|rfl
       ·exact Nat.lt_succ_of_lt (sr.al id h)
       ·exact Nat.lt_succ_self _)
     ·exact h.elim
   ·cases hwr:Aa3 o.op with
    |true=>
     rw [hwr] at h
     obtain ⟨v,d,ha,hk⟩:=W2 h
     exact plain v d ha hk
    |false=>
     rw [hwr] at h
     obtain ⟨v,ha,hk⟩:=No h
     exact plain v [] ha hk
  ·rename_i hw
   rw [Kb (fun t _ _ _ _=>sr.e t) hw]
   simp only [Bool.false_eq_true,if_false]
   obtain ⟨e',hput,hrest⟩:=Iw h
   have sr1:SR K.gl B nt c ⟨e',s.m,s.nx⟩ (a.put o.dst undef):=⟨sr.g,Nm hput sr.sz sr.e (.B4 .nil),sr.m,sr.al,L4.trans sr.sz,put_defers.trans sr.df,sr.gl⟩
   have:=jL hn r (pre++[o]) hops' (by simpa using hrest) sr1 st
   simpa using this
  ·exact h.elim
def Trace (P:Program) (K:Jz) (nt:Nat) (ops:Array Oper) (l:List Oper) (s s':St) (rs rs':List Rec):Prop:=
 ∃(S:Nat→St) (v:Nat→AV) (rc:Nat→Rec) (l':List Rec),S 0=s∧S l.length=s'∧rs'=rs++l'∧l'.length=l.length∧(∀i,i<l.length→l'[i]?=some (rc i))∧∀i o,l[i]?=some o→wP P K nt ops o (S i) (S (i+1)) (v i) (rc i)
theorem Trace.nil {s:St} {rs:List Rec}:Trace P K nt ops [] s s rs rs:=⟨fun _=>s,fun _=> .E9,fun _=>⟨[],[]⟩,[],rfl,rfl,by simp,rfl,fun i hi=>by simp at hi,fun i o h=>by simp at h⟩
theorem Trace.cons {o:Oper} {r:List Oper} {s s1 s':St} {rs rs':List Rec} {v0:AV} {r0:Rec} (hst:wP P K nt ops o s s1 v0 r0) (h:Trace P K nt ops r s1 s' (rs++[r0]) rs'):Trace P K nt ops (o::r) s s' rs rs':=by
 obtain ⟨S,v,rc,l',h1,h2,h3,h4,h5,h6⟩:=h
 refine ⟨fun i=>match i with|0=>s|i+1=>S i,fun i=>match i with|0=>v0|i+1=>v i,fun i=>match i with|0=>r0|i+1=>rc i,r0::l',rfl,by simpa using h2,by rw [h3];simp,by simp [h4],fun i hi=> ?_,fun i o' ho=> ?_⟩
 ·cases i with
  |zero=>rfl
  |succ i=>simpa using h5 i (by simpa using hi)
 ·cases i with
  |zero=>
   simp only [List.getElem?_cons_zero,Option.some.injEq] at ho
   subst ho
   show wP P K nt ops o s (S 0) v0 r0
   rw [h1];exact hst
  |succ i=>exact h6 i o' (by simpa using ho)
theorem Y0 {m:Mem} {id:Nat} {b:B5} (h:Am m id=some b):id∈m.map (·.1):=by
 induction m with
 |nil=>simp [Am] at h
 |cons p r ih=>
  obtain ⟨j,v⟩:=p
  unfold Am at h
  cases hj:Nat.beq j id with
  |true=>simp [beq_true hj]
  |false=>rw [hj] at h;simp [ih h]
theorem jF (m:Mem):Dw m (m.map (·.1))=Am m:=by
 funext id
 unfold Dw
 cases h:(m.map (·.1)).contains id with
 |true=>rfl
 |false=>
  simp only [cond_false]
  cases hm:Am m id with
  |none=>rfl
  |some b=>have:=Y0 hm;simp at h;simp at this;exact absurd this (by simpa using h)
theorem R1 {R:St→Prop}:∀(l:List Oper) (i:Nat) {s:St} (rs:List Rec),WQ P K nt ops l i s R→∃s' rs',R s'∧Trace P K nt ops l s s' rs rs'∧∀q∈rs',q∈rs∨q.d=[]
 |[],i,s,rs,h=>⟨s,rs,h,.nil,fun q hq=> .inl hq⟩
 |o::r,i,s,rs,h=>by
  unfold WQ at h
  split at h
  ·rename_i hw
   have fin:∀v:AV,E8 P K.gl s.e (Am s.m) s.nx o v []→(Ls 4 (Hg P o) v fun v=>Jg (s9 ops i) v fun v=>Nv nt s.e o.dst v fun e=>WQ P K nt ops r (i+1) ⟨e,s.m,s.nx+1⟩ R)→∃s' rs',R s'∧Trace P K nt ops (o::r) s s' rs rs'∧∀q∈rs',q∈rs∨q.d=[]:=by
    intro v ho hk
    obtain ⟨e',hput,hrest⟩:=Iw (L2 (Kc 4 _ _ _ hk))
    obtain ⟨s',rs',h1,h2,h3⟩:=R1 r (i+1) (rs++[⟨[],s.m.map (·.1)⟩]) hrest
    refine ⟨s',rs',h1,.cons ⟨.inl ⟨hw,by rw [jF];exact ho⟩,hput,fun _=>rfl,rfl⟩ h2,fun q hq=> ?_⟩
    rcases h3 q hq with h|h
    ·rcases List.mem_append.1 h with h|h
     ·exact .inl h
     ·simp at h;exact .inr (by rw [h])
    ·exact .inr h
   unfold opQ at h
   split at h
   ·rename_i gg args ats ho
    obtain ⟨f,caps,l,h1,h2,v,hpc,hk⟩:=Lk h
    rcases hpc with ⟨hp,hc⟩|hpo
    ·exact fin v (E8.pure ho h1 h2 hp fun B c vals g hgl hn hl hr=>(hc B c vals g hgl hl hr).mono fun _ _ h=>h.toD) hk
    ·exact fin v (E8.over ho h1 h2 hpo) hk
   ·obtain ⟨v,ha,hk⟩:=No h
    exact fin v (E8.Nx ha) hk
  ·rename_i hw
   obtain ⟨e',hput,hrest⟩:=Iw h
   obtain ⟨s',rs',h1,h2,h3⟩:=R1 r (i+1) (rs++[⟨[],[]⟩]) hrest
   refine ⟨s',rs',h1,.cons (s1:=⟨e',s.m,s.nx+1⟩) (r0:=⟨[],[]⟩) ⟨.inr ⟨hw,rfl,rfl⟩,hput,fun _=>rfl,rfl⟩ h2,fun q hq=> ?_⟩
   rcases h3 q hq with h|h
   ·rcases List.mem_append.1 h with h|h
    ·exact .inl h
    ·simp at h;exact .inr (by rw [h])
   ·exact .inr h
  ·exact h.elim
theorem Sl {ms:List Nat} {R:St→Prop}:∀(l:List Oper) (i:Nat) {s:St} (rs:List Rec),WF P K nt ops ms l i s rs R→∃s' rs',R s'∧Trace P K nt ops l s s' rs rs'∧F4 ms rs'=true
 |[],i,s,rs,h=>by
  obtain ⟨h1,h2⟩:=Rl h
  exact ⟨s,rs,h2,.nil,h1⟩
 |o::r,i,s,rs,h=>by
  unfold WF at h
  split at h
  ·rename_i hw
   have fin:∀(v:AV) (d:Wr) (ft:List Nat),E8 P K.gl s.e (Dw s.m ft) s.nx o v d→(Ls 4 (Hg P o) v fun v=>Jg (s9 ops i) v fun v=>Nv nt s.e o.dst v fun e=>WF P K nt ops ms r (i+1) ⟨e,Ag s.m d,s.nx+1⟩ (rs++[⟨d,ft⟩]) R)→∃s' rs',R s'∧Trace P K nt ops (o::r) s s' rs rs'∧F4 ms rs'=true:=by
    intro v d ft ho hk
    obtain ⟨e',hput,hrest⟩:=Iw (L2 (Kc 4 _ _ _ hk))
    obtain ⟨s',rs',h1,h2,h3⟩:=Sl r (i+1) _ hrest
    exact ⟨s',rs',h1,.cons ⟨.inl ⟨hw,ho⟩,hput,Ly _ _,rfl⟩ h2,h3⟩
   unfold opF at h
   split at h
   ·rename_i gg args ats ho
    obtain ⟨f,caps,l,h1,h2,v,d,ft,hpc,hk⟩:=Lk h
    rcases hpc with ⟨hp,hc⟩|⟨hpo,rfl⟩
    ·exact fin v d ft (E8.pure ho h1 h2 hp hc) hk
    ·exact fin v [] ft (E8.over ho h1 h2 hpo) hk
   ·rename_i t x y ho
    split at h
    ·rename_i a1 x1 h1 h2
     obtain ⟨v,d,hs,hk⟩:=P0 h
     exact fin v d _ (E8.Nx (by simp only [Nx,ho,h1,h2,hs])) hk
    ·exact h.elim
   ·rename_i t x ho
    split at h
    ·rename_i x1 h1
     obtain ⟨cs,hs,hk⟩:=Th h
     exact fin _ _ _ (E8.Nx (by simp only [Nx,ho,h1,Option.bind_some,hs])) hk
    ·exact h.elim
   ·obtain ⟨v,d,ha,hk⟩:=W2 h
    exact fin v d _ (E8.Nx ha) hk
  ·rename_i hw
   obtain ⟨e',hput,hrest⟩:=Iw h
   obtain ⟨s',rs',h1,h2,h3⟩:=Sl r (i+1) _ hrest
   exact ⟨s',rs',h1,.cons (s1:=⟨e',s.m,s.nx+1⟩) (r0:=⟨[],[]⟩) ⟨.inr ⟨hw,rfl,rfl⟩,hput,fun _=>rfl,rfl⟩ h2,h3⟩
  ·exact h.elim
theorem Vd {ms:List Nat} {rs:List Rec} (h:∀q∈rs,q.d=[]):F4 ms rs=true:=by
 unfold F4
 refine List.all_eq_true.2 fun p hp=> ?_
 have:p.1∈rs:=by
  obtain ⟨q,i⟩:=p
  exact List.mem_of_getElem? (List.mem_zipIdx_iff_getElem?.1 hp)
 simp [h p.1 this]
theorem Aew (hm:P.follows .mixedOrders=true) {d:Bool} {id:Nat} {s:St} {R:St→Prop} (h:WR P K nt ops d s R):C6 P K nt n0 (.region id ops d) s (fun x s=>x=.normal∧R s):=by
 intro B c0 cx a sr st hn
 unfold WR at h
 cases d with
 |false=>
  simp only [cond_false] at h
  refine wp_region ?_
  have:=jL (R:=R) hn ops.toList [] (by simp) h sr st
  simpa [List.range_eq_range'] using this
 |true=>
  simp only [cond_true] at h
  obtain ⟨h1,h2⟩:=Rl h
  have ⟨s',rs,hR,⟨S,v,rc,l',a1,a2,a3,a4,a5,a6⟩,hconf⟩:∃s' rs',R s'∧Trace P K nt ops ops.toList s s' [] rs'∧F4 (Gh ops.toList []) rs'=true:=by
   cases hw:ops.toList.any Aet with
   |true=>
    rw [hw] at h2
    exact Sl ops.toList 0 [] h2
   |false=>
    rw [hw] at h2
    obtain ⟨s',rs',b1,b2,b3⟩:=R1 ops.toList 0 [] h2
    exact ⟨s',rs',b1,b2,Vd fun q hq=>(b3 q hq).elim (fun h=>by simp at h) (fun h=>h)⟩
  have D:=eT h1 a1 a2 a3 a4 a5 a6 hconf
  exact W7 hm D sr fun c' a' sr' st'=>⟨.normal,s',c',rfl,⟨rfl,hR⟩,sr',rfl,st.trans st'⟩
theorem lN {x:Bh} {s:St} {R:St→Prop} {Q:Bh→St→Prop} (h:x=.normal∧R s) (hR:∀s,R s→Q .normal s):Q x s:=by obtain ⟨rfl,h⟩:=h;exact hR s h
theorem Uw (hm:P.follows .mixedOrders=true):∀(c:Code) (s:St) (Q:Bh→St→Prop),W P K nt n0 c s Q→C6 P K nt n0 c s Q
 |.skip,s,Q,h=> .skip h
 |.region id ops d,s,Q,h=>(Aew hm h).mono fun x s h=>lN h fun s h=>h
 |.seq a b,s,Q,h=> .seq ((Uw hm a s _ h).mono fun x s' h=>by
   cases x with
   |normal=>exact Uw hm b s' Q h
   |exit i=>exact h
   |ret=>exact h)
 |.cond c a b,s,Q,h=>by
  unfold W at h
  split at h
  ·rename_i v hv
   obtain ⟨b',rfl,h1,h2⟩:=W6 h
   exact .cond hv (fun e=>Uw hm a s Q (h1 e)) (fun e=>Uw hm b s Q (h2 e))
  ·exact h.elim
 |.block id b,s,Q,h=> .block (Uw hm b s _ h)
 |.loop b,s,Q,h=>h
 |.exit i,s,Q,h=> .exit h
 |.ret,s,Q,h=> .ret h
 |.label l,s,Q,h=> .label h
 |.rangeFunc ..,s,Q,h=>by simp [W] at h
 |.scope ..,s,Q,h=>by simp [W] at h
 |.goto ..,s,Q,h=>by simp [W] at h
 |.refuse ..,s,Q,h=>by simp [W] at h
end
end Go.Proofs.YtmhnnmfcjdnlhaaGreatDoor
set_option linter.unusedVariables false
set_option linter.unusedSimpArgs false
namespace Go.Proofs.YtmhnnmfcjdnlhaaGreatDoor
open Go.RowKit
def Ht:Code→Nat
 |.seq a b=>Ht a+Ht b
 |.cond _ a b=>Ht a+Ht b
 |.block _ b=>Ht b
 |.loop _=>1
 |_=>0
def Ey:Code→Nat→Code
 |.seq a b,i=>bif Nat.blt i (Ht a) then Ey a i else Ey b (i-Ht a)
 |.cond _ a b,i=>bif Nat.blt i (Ht a) then Ey a i else Ey b (i-Ht a)
 |.block _ b,i=>Ey b i
 |.loop b,_=>b
 |_,_=> .skip
def Ew (P:Program) (K:Jz) (nt n0:Nat):Code→Nat→(Bh→St→Prop)→Bh→St→Prop
 |.seq a b,i,Q=>bif Nat.blt i (Ht a) then Ew P K nt n0 a i (Ex (fun s'=>W P K nt n0 b s' Q) Q) else Ew P K nt n0 b (i-Ht a) Q
 |.cond _ a b,i,Q=>bif Nat.blt i (Ht a) then Ew P K nt n0 a i Q else Ew P K nt n0 b (i-Ht a) Q
 |.block id b,i,Q=>Ew P K nt n0 b i (Sf id Q)
 |.loop _,_,Q=>Q
 |_,_,_=>fun _ _=>False
def Jx (vals:List AV):Operand→Option AV
 |.tmp i=>vals[i]?
 |.const v=>Hc v
 |_=>none
def Cs (P:Program) (op:Op) (ty:TypeId) (vals:List AV) (look:Nat→Option B5) (n:Nat):Ie:=Nx P (Jx vals) look n ⟨none,op,ty, "",#[],none⟩
def Il (r:Ie) (m:Mem) (k:AV→Mem→Prop):Prop:=J4 r fun v d=>k v (Ag m d)
section
variable (look:Nat→Option B5)
def Fm:AV→Ie
 |.ptr id off=>match look id with|some b=>(b.cells[off]?).map (·,[])|none=>none
 |.Dn cs off=>(cs[off]?).map (·,[])
 |_=>none
def Ui (n:Nat) (cs:List AV) (off:Nat):Option AV:=bif Nat.ble (off+n) cs.length then some (.agg ((cs.drop off).take n)) else none
def Iv (n:Nat):AV→Ie
 |.ptr id off=>match look id with|some b=>(Ui n b.cells off).map (·,[])|none=>none
 |.Dn cs off=>(Ui n cs off).map (·,[])
 |_=>none
def stO (sz:Nat) (a x:AV):Ie:=
 match a,Dl x,some sz with
 |.ptr id off,some cs,some sz=>
  match look id with
  |some b=>bif Nat.beq cs.length sz && Nat.ble (off+cs.length) b.cells.length && cs.all Cq then some (.E9,[(id,some ⟨Eg b.cells off cs,b.ty⟩)]) else none
  |none=>none
 |_,_,_=>none
def E1 (o:Nat):AV→Ie
 |.ptr id off=>some (.ptr id (off+o),[])
 |.Dn cs off=>some (.Dn cs (off+o),[])
 |_=>none
def Eb (sz:Nat) (x i:AV):Ie:=
 match i with
 |.sc (.int _ z)=>match x with
  |.sl id off esz n cap ex=>bif decide (0≤z) && decide (z<(n:Int)) then some (.ptr id (off+z.toNat*sz),[]) else none
  |.Ek n cs ex=>bif decide (0≤z) && decide (z<(n:Int)) then some (.Dn (elemAt sz cs z.toNat) 0,[]) else none
  |_=>none
 |_=>none
def aM (len sz:Nat) (x i:AV):Ie:=
 match i with
 |.sc (.int _ z)=>match x with
  |.ptr id off=>bif decide (0≤z) && decide (z<(len:Int)) then some (.ptr id (off+z.toNat*sz),[]) else none
  |.Dn cs off=>bif decide (0≤z) && decide (z<(len:Int)) then some (.Dn cs (off+z.toNat*sz),[]) else none
  |_=>none
 |_=>none
def fvS (o:Nat):AV→Ie
 |.agg cs=>(cs[o]?).map (·,[])
 |_=>none
def fvA (o n:Nat):AV→Ie
 |.agg cs=>(Ui n cs o).map (·,[])
 |_=>none
def alc (zs:List AV) (t n:Nat):Ie:=some (.ptr n 0,[(n,some ⟨zs,t⟩)])
def bx (t:Nat) (x:AV) (n:Nat):Ie:=match Dl x with
 |some cs=>some (.ptr n 0,[(n,some ⟨cs,t⟩)])
 |none=>none
def N8 (zs:List AV) (pl:List (Nat×Nat)) (parts:List (Nat×AV)):Ie:=(Jm (fun i=>pl[i]?) zs parts).map (fun cs=>(.agg cs,[]))
def app (e sz by_:Nat) (zs:List AV) (n:Nat) (s x:AV):Ie:=
 match cellsOf look sz x with
 |some (m,xs)=>
  bif Nat.beq m 0 then
   match s with
   |.B1|.Ek ..|.sl ..=>some (s,[])
   |_=>none
  else
  match cellsOf look sz s with
  |some (k,old)=>
   bif (Nat.ble ((k+m)*by_) 140737488355328||Yx s (k+m)) && Nat.ble (k+m) 4611686018427387904 && Nat.beq zs.length sz && Nat.ble 1 sz && xs.all Cq && Nat.beq xs.length (m*sz) && Nat.beq old.length (k*sz) then
    match s with
    |.B1=>some (.sl n 0 sz (k+m) (k+m) false,[(n,some ⟨old++xs,e⟩)])
    |.Ek _ _ true=>some (.sl n 0 sz (k+m) (k+m) false,[(n,some ⟨old++xs,e⟩)])
    |.sl id off esz _ cap ex=>
     bif Nat.ble (k+m) cap then
      match look id with
      |some b=>bif Nat.ble (off+(k+m)*sz) b.cells.length then some (.sl id off sz (k+m) cap ex,[(id,some ⟨Eg b.cells (off+k*sz) xs,b.ty⟩)]) else none
      |none=>none
     else bif ex then some (.sl n 0 sz (k+m) (k+m) false,[(n,some ⟨old++xs,e⟩)])
     else bif Nat.beq off 0 && (match look id with|some b=>Nat.beq b.ty e|none=>false) then some (.sl n 0 sz (k+m) (k+m) false,[(n,some ⟨old++xs,e⟩),(id,none)])
     else none
    |_=>none
   else none
  |none=>none
 |none=>none
def Ed:AV→Ie
 |.B1=>some (.sc (.int .i64 0),[])
 |.Ek n _ _=>some (.sc (.int .i64 n),[])
 |.sl _ _ _ n _ _=>some (.sc (.int .i64 n),[])
 |_=>none
def Vu (n e sz len:Nat) (zs:List AV) (parts:List (Nat×AV)):Ie:=
 bif Nat.ble (len*sz) 16777216 && Nat.beq zs.length sz && Nat.ble 1 sz then
  match Jm (fun i=>some (i*sz,sz)) (rep zs len) parts with
  |some cs=>some (.sl n 0 sz len len true,[(n,some ⟨cs,e⟩)])
  |none=>none
 else none
def mks (n e sz by_:Nat) (zs:List AV) (l c:AV):Ie:=
 match l,c with
 |.sc (.int .i64 x),.sc (.int .i64 y)=>
  bif decide (0≤x) && decide (x≤y) && decide (y*(by_:Int)≤140737488355328) && decide (y≤4611686018427387904) && Nat.beq zs.length sz && Nat.ble 1 sz then
   some (.sl n 0 sz x.toNat y.toNat true,[(n,some ⟨rep zs y.toNat,e⟩)])
  else none
 |_,_=>none
def O3 (sz:Nat) (x:AV) (lo hi mx:Option AV):Ie:=
 match x with
 |.B1=>match Lz 0 lo,Lz 0 hi,Lz 0 mx with
  |some 0,some 0,some 0=>bif mx.isSome && hi.isNone then none else some (.B1,[])
  |_,_,_=>none
 |.Ek n cs ex=>match Lz 0 lo,Lz n hi,Lz n mx with
  |some l,some h,some m=>bif Nat.ble l h && Nat.ble h m && Nat.ble m n && Nat.beq cs.length (n*sz) && !(mx.isSome && hi.isNone) then
    some (.Ek (h-l) ((cs.drop (l*sz)).take ((h-l)*sz)) (mx.isSome && Nat.beq h m),[]) else none
  |_,_,_=>none
 |.sl id off esz n cap ex=>match Lz 0 lo,Lz n hi,Lz cap mx with
  |some l,some h,some m=>bif Nat.ble l h && Nat.ble h m && Nat.ble m cap && Nat.beq esz sz && !(mx.isSome && hi.isNone) then
    bif Nat.beq l m then some (.Ek 0 [] (ex||mx.isSome),[]) else some (.sl id (off+l*sz) sz (h-l) (m-l) (ex||mx.isSome),[])
   else none
  |_,_,_=>none
 |_=>none
def ext (i:Nat):AV→Ie
 |.B4 vs=>(vs[i]?).map (·,[])
 |_=>none
end
def Ah6 (v:AV) (k:AV→Prop):Prop:=Fx 1 v fun l=>match l with
 |[a0]=>k a0
 |_=>False
def I3 (v:AV) (k:AV→AV→Prop):Prop:=Fx 2 v fun l=>match l with
 |[a0,a1]=>k a0 a1
 |_=>False
def Ahz (v:AV) (k:AV→AV→AV→Prop):Prop:=Fx 3 v fun l=>match l with
 |[a0,a1,a2]=>k a0 a1 a2
 |_=>False
def Sy (v:AV) (k:AV→AV→AV→AV→Prop):Prop:=Fx 4 v fun l=>match l with
 |[a0,a1,a2,a3]=>k a0 a1 a2 a3
 |_=>False
def Aif (v:AV) (k:AV→AV→AV→AV→AV→Prop):Prop:=Fx 5 v fun l=>match l with
 |[a0,a1,a2,a3,a4]=>k a0 a1 a2 a3 a4
 |_=>False
def Ji (v:AV) (k:AV→AV→AV→AV→AV→AV→Prop):Prop:=Fx 6 v fun l=>match l with
 |[a0,a1,a2,a3,a4,a5]=>k a0 a1 a2 a3 a4 a5
 |_=>False
def nH (v:AV) (k:AV→AV→AV→AV→AV→AV→AV→Prop):Prop:=Fx 7 v fun l=>match l with
 |[a0,a1,a2,a3,a4,a5,a6]=>k a0 a1 a2 a3 a4 a5 a6
 |_=>False
def Aim (v:AV) (k:AV→AV→AV→AV→AV→AV→AV→AV→Prop):Prop:=Fx 8 v fun l=>match l with
 |[a0,a1,a2,a3,a4,a5,a6,a7]=>k a0 a1 a2 a3 a4 a5 a6 a7
 |_=>False
def Ah1 (v:AV) (k:AV→AV→AV→AV→AV→AV→AV→AV→AV→Prop):Prop:=Fx 9 v fun l=>match l with
 |[a0,a1,a2,a3,a4,a5,a6,a7,a8]=>k a0 a1 a2 a3 a4 a5 a6 a7 a8
 |_=>False
def Ahe (v:AV) (k:AV→AV→AV→AV→AV→AV→AV→AV→AV→AV→Prop):Prop:=Fx 10 v fun l=>match l with
 |[a0,a1,a2,a3,a4,a5,a6,a7,a8,a9]=>k a0 a1 a2 a3 a4 a5 a6 a7 a8 a9
 |_=>False
def Ahp (v:AV) (k:AV→AV→AV→AV→AV→AV→AV→AV→AV→AV→AV→Prop):Prop:=Fx 11 v fun l=>match l with
 |[a0,a1,a2,a3,a4,a5,a6,a7,a8,a9,a10]=>k a0 a1 a2 a3 a4 a5 a6 a7 a8 a9 a10
 |_=>False
def Ahn (v:AV) (k:AV→AV→AV→AV→AV→AV→AV→AV→AV→AV→AV→AV→Prop):Prop:=Fx 12 v fun l=>match l with
 |[a0,a1,a2,a3,a4,a5,a6,a7,a8,a9,a10,a11]=>k a0 a1 a2 a3 a4 a5 a6 a7 a8 a9 a10 a11
 |_=>False
def Ahg (v:AV) (k:AV→AV→AV→AV→AV→AV→AV→AV→AV→AV→AV→AV→AV→Prop):Prop:=Fx 13 v fun l=>match l with
 |[a0,a1,a2,a3,a4,a5,a6,a7,a8,a9,a10,a11,a12]=>k a0 a1 a2 a3 a4 a5 a6 a7 a8 a9 a10 a11 a12
 |_=>False
def Ahj (v:AV) (k:AV→AV→AV→AV→AV→AV→AV→AV→AV→AV→AV→AV→AV→AV→Prop):Prop:=Fx 14 v fun l=>match l with
 |[a0,a1,a2,a3,a4,a5,a6,a7,a8,a9,a10,a11,a12,a13]=>k a0 a1 a2 a3 a4 a5 a6 a7 a8 a9 a10 a11 a12 a13
 |_=>False
def Ahv (v:AV) (k:AV→AV→AV→AV→AV→AV→AV→AV→AV→AV→AV→AV→AV→AV→AV→Prop):Prop:=Fx 15 v fun l=>match l with
 |[a0,a1,a2,a3,a4,a5,a6,a7,a8,a9,a10,a11,a12,a13,a14]=>k a0 a1 a2 a3 a4 a5 a6 a7 a8 a9 a10 a11 a12 a13 a14
 |_=>False
def Ahm (v:AV) (k:AV→AV→AV→AV→AV→AV→AV→AV→AV→AV→AV→AV→AV→AV→AV→AV→Prop):Prop:=Fx 16 v fun l=>match l with
 |[a0,a1,a2,a3,a4,a5,a6,a7,a8,a9,a10,a11,a12,a13,a14,a15]=>k a0 a1 a2 a3 a4 a5 a6 a7 a8 a9 a10 a11 a12 a13 a14 a15
 |_=>False
def Ahu (v:AV) (k:AV→AV→AV→AV→AV→AV→AV→AV→AV→AV→AV→AV→AV→AV→AV→AV→AV→Prop):Prop:=Fx 17 v fun l=>match l with
 |[a0,a1,a2,a3,a4,a5,a6,a7,a8,a9,a10,a11,a12,a13,a14,a15,a16]=>k a0 a1 a2 a3 a4 a5 a6 a7 a8 a9 a10 a11 a12 a13 a14 a15 a16
 |_=>False
def Ahx (v:AV) (k:AV→AV→AV→AV→AV→AV→AV→AV→AV→AV→AV→AV→AV→AV→AV→AV→AV→AV→Prop):Prop:=Fx 18 v fun l=>match l with
 |[a0,a1,a2,a3,a4,a5,a6,a7,a8,a9,a10,a11,a12,a13,a14,a15,a16,a17]=>k a0 a1 a2 a3 a4 a5 a6 a7 a8 a9 a10 a11 a12 a13 a14 a15 a16 a17
 |_=>False
def Ahw (v:AV) (k:AV→AV→AV→AV→AV→AV→AV→AV→AV→AV→AV→AV→AV→AV→AV→AV→AV→AV→AV→Prop):Prop:=Fx 19 v fun l=>match l with
 |[a0,a1,a2,a3,a4,a5,a6,a7,a8,a9,a10,a11,a12,a13,a14,a15,a16,a17,a18]=>k a0 a1 a2 a3 a4 a5 a6 a7 a8 a9 a10 a11 a12 a13 a14 a15 a16 a17 a18
 |_=>False
def Ahl (v:AV) (k:AV→AV→AV→AV→AV→AV→AV→AV→AV→AV→AV→AV→AV→AV→AV→AV→AV→AV→AV→AV→Prop):Prop:=Fx 20 v fun l=>match l with
 |[a0,a1,a2,a3,a4,a5,a6,a7,a8,a9,a10,a11,a12,a13,a14,a15,a16,a17,a18,a19]=>k a0 a1 a2 a3 a4 a5 a6 a7 a8 a9 a10 a11 a12 a13 a14 a15 a16 a17 a18 a19
 |_=>False
def Ahs (v:AV) (k:AV→AV→AV→AV→AV→AV→AV→AV→AV→AV→AV→AV→AV→AV→AV→AV→AV→AV→AV→AV→AV→Prop):Prop:=Fx 21 v fun l=>match l with
 |[a0,a1,a2,a3,a4,a5,a6,a7,a8,a9,a10,a11,a12,a13,a14,a15,a16,a17,a18,a19,a20]=>k a0 a1 a2 a3 a4 a5 a6 a7 a8 a9 a10 a11 a12 a13 a14 a15 a16 a17 a18 a19 a20
 |_=>False
def kI (v:AV) (k:AV→AV→AV→AV→AV→AV→AV→AV→AV→AV→AV→AV→AV→AV→AV→AV→AV→AV→AV→AV→AV→AV→Prop):Prop:=Fx 22 v fun l=>match l with
 |[a0,a1,a2,a3,a4,a5,a6,a7,a8,a9,a10,a11,a12,a13,a14,a15,a16,a17,a18,a19,a20,a21]=>k a0 a1 a2 a3 a4 a5 a6 a7 a8 a9 a10 a11 a12 a13 a14 a15 a16 a17 a18 a19 a20 a21
 |_=>False
def Ahk (v:AV) (k:AV→AV→AV→AV→AV→AV→AV→AV→AV→AV→AV→AV→AV→AV→AV→AV→AV→AV→AV→AV→AV→AV→AV→Prop):Prop:=Fx 23 v fun l=>match l with
 |[a0,a1,a2,a3,a4,a5,a6,a7,a8,a9,a10,a11,a12,a13,a14,a15,a16,a17,a18,a19,a20,a21,a22]=>k a0 a1 a2 a3 a4 a5 a6 a7 a8 a9 a10 a11 a12 a13 a14 a15 a16 a17 a18 a19 a20 a21 a22
 |_=>False
def Ahy (v:AV) (k:AV→AV→AV→AV→AV→AV→AV→AV→AV→AV→AV→AV→AV→AV→AV→AV→AV→AV→AV→AV→AV→AV→AV→AV→Prop):Prop:=Fx 24 v fun l=>match l with
 |[a0,a1,a2,a3,a4,a5,a6,a7,a8,a9,a10,a11,a12,a13,a14,a15,a16,a17,a18,a19,a20,a21,a22,a23]=>k a0 a1 a2 a3 a4 a5 a6 a7 a8 a9 a10 a11 a12 a13 a14 a15 a16 a17 a18 a19 a20 a21 a22 a23
 |_=>False
def X5 (v:AV) (k:Prop):Prop:=Mu 0 v fun l=>match l with
 |[]=>k
 |_=>False
def Fs (v:AV) (k:AV→AV→Prop):Prop:=Mu 2 v fun l=>match l with
 |[a0,a1]=>k a0 a1
 |_=>False
def tV (v:AV) (k:AV→AV→AV→Prop):Prop:=Mu 3 v fun l=>match l with
 |[a0,a1,a2]=>k a0 a1 a2
 |_=>False
def Aik (v:AV) (k:AV→AV→AV→AV→Prop):Prop:=Mu 4 v fun l=>match l with
 |[a0,a1,a2,a3]=>k a0 a1 a2 a3
 |_=>False
def Ah5 (v:AV) (k:AV→AV→AV→AV→AV→Prop):Prop:=Mu 5 v fun l=>match l with
 |[a0,a1,a2,a3,a4]=>k a0 a1 a2 a3 a4
 |_=>False
def Aii (v:AV) (k:AV→AV→AV→AV→AV→AV→Prop):Prop:=Mu 6 v fun l=>match l with
 |[a0,a1,a2,a3,a4,a5]=>k a0 a1 a2 a3 a4 a5
 |_=>False
def Ah7 (v:AV) (k:AV→AV→AV→AV→AV→AV→AV→Prop):Prop:=Mu 7 v fun l=>match l with
 |[a0,a1,a2,a3,a4,a5,a6]=>k a0 a1 a2 a3 a4 a5 a6
 |_=>False
def Aic (v:AV) (k:AV→AV→AV→AV→AV→AV→AV→AV→Prop):Prop:=Mu 8 v fun l=>match l with
 |[a0,a1,a2,a3,a4,a5,a6,a7]=>k a0 a1 a2 a3 a4 a5 a6 a7
 |_=>False
@[simp] theorem Ns (p:Prop):Jj true p=p:=rfl
def uO:List (Option AV)→Option (List AV)
 |[]=>some []
 |r::rs=>match r,uO rs with
  |some v,some l=>some (v::l)
  |_,_=>none
def kU:Option (List AV)→Option AV
 |some [v]=>some v
 |some l=>some (.B4 l)
 |none=>none
def A2 (R:AV→Mem→Prop) (m:Mem) (os:List (Option AV)):Prop:=match kU (uO os) with
 |some v=>R v m
 |none=>False
def C8 (P:Program) (fn:Func) (R:AV→Mem→Prop):Bh→St→Prop
 |.normal,s=>(match Fk P fn s with|some v=>R v s.m|none=>False)
 |.ret,s=>(match Fk P fn s with|some v=>R v s.m|none=>False)
 |_,_=>False
end Go.Proofs.YtmhnnmfcjdnlhaaGreatDoor
set_option linter.unusedVariables false
set_option linter.unusedSimpArgs false
namespace Go.Proofs.YtmhnnmfcjdnlhaaGreatDoor
open Go.RowKit
mutual
def norm:AV→AV
 |.B1=> .Ek 0 [] false
 |.Ek n cs _=> .Ek n (Hd cs) false
 |.agg cs=> .agg (Hd cs)
 |.B4 cs=> .B4 (Hd cs)
 |.Dn cs off=> .Dn (Hd cs) off
 |.fn f cs=> .fn f (Hd cs)
 |x=>x
def Hd:List AV→List AV
 |[]=>[]
 |x::xs=>norm x::Hd xs
end
mutual
theorem Ra {c:Cx} {x:AV} {v:Value}:B9 c x v→B9 c (norm x) v
 |.E9 v=> .E9 v
 |.sc v h=> .sc v h
 |.agg h=> .agg (Gs h)
 |.B4 h=> .B4 (Gs h)
 |.Ki=> .Ki
 |.ptr h off=> .ptr h off
 |.Dn hb h hc off=> .Dn hb (Gs h) hc off
 |.B1=> .Ga none 0 false (fun h=>by cases h) (Nat.zero_le _) (fun _=>rfl)
 |.Ga a cap ex he hm hn=> .Ga a cap false (fun h=>by cases h) hm hn
 |.Ek hb h hc hn he hm=> .Ek hb (Gs h) hc hn (fun h=>by cases h) hm
 |.sl h hb hs hn hc he hm=> .sl h hb hs hn hc he hm
 |.fn f h=> .fn f (Gs h)
 |.Pj=> .Pj
 |.Qe u v=> .Qe u v
theorem Gs {c:Cx} {xs:List AV} {vs:List Value}:Cf c xs vs→Cf c (Hd xs) vs
 |.nil=> .nil
 |.cons h t=> .cons (Ra h) (Gs t)
end
section
variable {P:Program} {K:Jz} {gl:Nat→Option (List AV)}
def Own (P:Program) (gl:Nat→Option (List AV)) (f:FuncId) (args:List AV) (R:AV→Mem→Prop):Prop:=
 G4 P f∧∀(B:Nat) (c:Cx) (vals:List Value),Good B c→Dr gl c→(∀id,c.M id=none)→(∀id,¬c.al id)→Cf c args vals→Calls P f vals.toArray c.w (fun e w'=>∃u m nx,R u m∧Hn B c u m nx e w')
theorem kX (hm:P.follows .mixedOrders=true) {f:FuncId} {fn:Func} {code:Code} (hf:P.funcs[f]?=some fn) (hb:fn.body=some code) (hn:(fn.name== "runtime.NumGoroutine")=false) {args:List AV} (hl:Nat.ble args.length fn.ntmps=true) {R:AV→Mem→Prop}
  (h:W P K fn.ntmps 0 code ⟨Fa args 0,[],0⟩ (C8 P fn R)):Own P K.gl f args R:=by
 refine ⟨⟨fn,code,hf,hb,hn⟩,fun B c vals g hgl hM ha hr=> ?_⟩
 have tri:C6 P K fn.ntmps 0 code ⟨Fa args 0,[],0⟩ (fun x s=>(x=.normal∨x=.ret)∧∃v,Fk P fn s=some v∧R v s.m):=(Uw hm code _ _ h).mono fun x s hq=>by
  cases x with
  |normal=>
   simp only [C8] at hq
   split at hq
   ·rename_i v hv;exact ⟨.inl rfl,v,hv,hq⟩
   ·exact hq.elim
  |ret=>
   simp only [C8] at hq
   split at hq
   ·rename_i v hv;exact ⟨.inr rfl,v,hv,hq⟩
   ·exact hq.elim
  |exit i=>exact hq.elim
 exact (Ky (R:=fun v m' _=>R v m') hf hb (Nat.le_of_ble_eq_true hl) tri g hgl (fun id=>by rw [hM];rfl) (fun id h=>absurd h (ha id)) hr).mono fun e w' ⟨v,m',nx',h1,h2⟩=>⟨v,m',nx',h1,h2⟩
theorem Bk (hm:P.follows .mixedOrders=true) {f:FuncId} {fn:Func} {code:Code} (hf:P.funcs[f]?=some fn) (hb:fn.body=some code) (hn:(fn.name== "runtime.NumGoroutine")=false) {args:List AV} (hl:Nat.ble args.length fn.ntmps=true) {R:AV→Mem→Prop} {X:Prop}
  (hX:W P K fn.ntmps 0 code ⟨Fa args 0,[],0⟩ (C8 P fn R)=X) (h:X):Own P K.gl f args R:=kX hm hf hb hn hl (hX.mpr h)
theorem Own.mono {f:FuncId} {args:List AV} {R R':AV→Mem→Prop} (h:Own P gl f args R) (hr:∀v m,R v m→R' v m):Own P gl f args R':=
 ⟨h.1,fun B c vals g hgl hM ha hr'=>(h.2 B c vals g hgl hM ha hr').mono fun e w' ⟨u,m,nx,h1,h2⟩=>⟨u,m,nx,hr u m h1,h2⟩⟩
def C2 (v:AV) (u:AV) (m:Mem):Prop:=(freeze (Am m) 6 u).map norm=some v
theorem I5.any {f:FuncId} {args:List AV} {v:AV} (h:I5 P gl (fun _=>none) f args v) (look:Nat→Option B5):I5 P gl look f args v:=
 ⟨h.1,fun B c vals g hgl _ hr=>h.2 B c vals g hgl (fun _ _ h=>by cases h) hr⟩
theorem A1 {f:FuncId} {args:List AV} {v:AV} (hc:Av args=true) (hv:clean v=true) (h:Own P gl f args (C2 v)):Dc P gl f args v:=by
 refine ⟨hc,hv,h.1,fun B c vals g hgl _ hr=> ?_⟩
 have hBs:=g.hB
 have hno:∀b,(c.own b∨c.no b)→b<c.w.heap.size:=by
  rintro b (⟨id,Cr,h1,h2⟩|h)
  ·rw [← h2];exact g.lt h1
  ·have:=g.K6 b h;omega
 have hst:∀b,c.Ch b→(c.alone fun b=>c.own b∨c.no b).Ch b:=fun b ⟨h1,h2,h3⟩=>⟨h1,Dd,fun h=>h.elim h2 h3⟩
 refine (h.2 c.w.heap.size (c.alone fun b=>c.own b∨c.no b) vals (Ev hno) (Dr.Cn (c:=c) rfl hst hgl) (fun _=>rfl) (fun _ h=>h) (Cf.Cn (c:=c) (c0:=c.alone fun b=>c.own b∨c.no b) rfl hst hr hc)).mono ?_
 rintro e w' ⟨u,m,nx,hans,u',c0,rfl,rfl,k1,k2,k3,k4,k5⟩
 obtain ⟨v',hv',rfl⟩:=Option.map_eq_some_iff.1 hans
 refine ⟨u',{c with w:=c0.w},rfl,rfl,Ra ?_,G7 g k2,H6 g k2,fun _=>rfl,fun _=>Iff.rfl⟩
 refine Kv (c':={c with w:=c0.w}) k3 rfl ?_ ?_ (fun id b h=>by rw [k4];exact h) 6 k1 hv'
 ·rintro b ⟨h1,h2,h3⟩
  refine ⟨h1,fun ho=>h3 ((k2.no b).2 (.inl ho)),fun hn=>h3 ((k2.no b).2 (.inr hn))⟩
 ·rintro b ⟨id,Cr,h1,h2⟩
  have hlow:=(k3.low id Cr h1).1
  refine ⟨by rw [← h2];exact k3.lt h1,?_,fun hn=> ?_⟩
  ·rintro ⟨id',blk',h1',h2'⟩
   have:=g.lt h1'
   have e2:c.f id'=b:=h2'
   omega
  ·have:b<B:=g.K6 b hn
   omega
theorem Dc.at {f:FuncId} {args:List AV} {v:AV} (h:Dc P gl f args v) (look:Nat→Option B5):I5 P gl look f args v:=h.2.2.any look
theorem Jb {m:Mem} {nx:Nat} {f:FuncId} {args:List AV} {v:AV} {k:AV→Mem→Prop} (h:I5 P gl (Am m) f args v) (hk:k v m):Ez P gl m nx f args k:=
 ⟨h.1,fun B c vals g hgl hM ha hr=>(h.2 B c vals g hgl (fun id b hb=>by rw [hM];exact hb) hr).mono fun e w' ⟨v',c',h1,h2,h3,h4,h5,h6,h7⟩=>
  ⟨v,m,hk,v',c',h1,h2,h3,h4,h5,fun id=>by rw [h6,hM],fun id h=>by have:=ha id ((h7 id).1 h);omega⟩⟩
theorem Nc {m:Mem} {nx:Nat} {f:FuncId} {args:List AV} {v:AV} {k:AV→Mem→Prop} (h:Dc P gl f args v) (hk:k v m):Ez P gl m nx f args k:=Jb (h.at _) hk
theorem An {m:Mem} {f:FuncId} {args:List AV} {v:AV} {k:AV→Prop} (h:Dc P gl f args v) (hk:k v):Bd P gl m f args k:=⟨v,.inl (h.at _),hk⟩
theorem Ri {m:Mem} {f:FuncId} {args:List AV} {v:AV} {k:AV→Prop} (h:I5 P gl (Am m) f args v) (hk:k v):Bd P gl m f args k:=⟨v,.inl h,hk⟩
theorem Rf {m:Mem} {n:Nat} {f:FuncId} {args:List AV} {v:AV} {k:AV→Wr→List Nat→Prop} (h:Dc P gl f args v) (hk:k v [] []):dG P gl m n f args k:=⟨v,[],[],.inl (h.at _).toD,hk⟩
def mY (off esz k cap:Nat) (ex:Bool) (b:B5) (u:AV) (m:Mem):Prop:=∃id,u=.sl id off esz k cap ex∧Am m id=some b
theorem Xq {n:Nat} {look:Nat→Option B5} {f:FuncId} {args:List AV} {off esz k cap:Nat} {ex:Bool} {b:B5} (hc:Av args=true) (hb:Av b.cells=true) (h:Own P gl f args (mY off esz k cap ex b)):E3 P gl look n f args (.sl n off esz k cap ex) [(n,some b)]:=by
 refine ⟨h.1,fun B c vals g hgl hn _ hr=> ?_⟩
 have hBs:=g.hB
 have hno:∀b,(c.own b∨c.no b)→b<c.w.heap.size:=by
  rintro b (⟨id,Cr,h1,h2⟩|h)
  ·rw [← h2];exact g.lt h1
  ·have:=g.K6 b h;omega
 have hst:∀b,c.Ch b→(c.alone fun b=>c.own b∨c.no b).Ch b:=fun b ⟨h1,h2,h3⟩=>⟨h1,Dd,fun h=>h.elim h2 h3⟩
 refine (h.2 c.w.heap.size (c.alone fun b=>c.own b∨c.no b) vals (Ev hno) (Dr.Cn (c:=c) rfl hst hgl) (fun _=>rfl) (fun _ h=>h) (Cf.Cn (c:=c) (c0:=c.alone fun b=>c.own b∨c.no b) rfl hst hr hc)).mono ?_
 rintro e w' ⟨u,m,nx,⟨id,rfl,hm⟩,u',c0,rfl,rfl,k1,k2,k3,k4,k5⟩
 exact Kp g hn k2 k3 (by rw [k4];exact hm) hb k1
theorem G5 {m:Mem} {nx:Nat} {f:FuncId} {args:List AV} {v:AV} {d:Wr} {k:AV→Mem→Prop} (h:E3 P gl (Am m) nx f args v d) (hk:k v (Ag m d)):Ez P gl m nx f args k:=
 ⟨h.1,fun B c vals g hgl hM ha hr=>(h.2 B c vals g hgl (fun h=>Nat.lt_irrefl _ (ha _ h)) (fun id b hb=>by rw [hM];exact hb) hr).mono fun e w' ⟨v',c',h1,h2,h3,h4,h5,h6,h7,h8⟩=>
  ⟨v,Ag m d,hk,v',c',h1,h2,h3,h4,h5,fun id=>by rw [h6,Ly];exact Pc d hM id,fun id h=>by
   rcases h7 id h with h|rfl
   ·have:=ha id h;omega
   ·omega⟩⟩
def Cl (K:Jz) (nt n0:Nat) (s s0:St):Prop:=∀(B:Nat) (c0 cx:Cx) (a:Act),SR K.gl B nt cx s a→Step c0 cx→(∀id,c0.al id→id<n0)→∃cx',SR K.gl B nt cx' s0 a∧Step c0 cx'∧cx'.w=cx.w
variable {nt n0:Nat}
theorem C6.He {s s0:St} {c:Code} {Q:Bh→St→Prop} (hw:Cl K nt n0 s s0) (h:C6 P K nt n0 c s0 Q):C6 P K nt n0 c s Q:=fun B c0 cx a sr st hn=>by
 obtain ⟨cx',sr',st',e⟩:=hw B c0 cx a sr st hn
 rw [← e];exact h B c0 cx' a sr' st' hn
theorem Rk.He {s s0:St} {c:Code} {n:Nat} {Q:Bh→St→Prop} (hw:Cl K nt n0 s s0) (h:Rk P K nt n0 c n s0 Q):Rk P K nt n0 c n s Q:=fun B c0 cx a sr st hn=>by
 obtain ⟨cx',sr',st',e⟩:=hw B c0 cx a sr st hn
 rw [← e];exact h B c0 cx' a sr' st' hn
theorem C6.loops (hm:P.follows .mixedOrders=true) {body:Code} {Q:Bh→St→Prop} {σ:Type} (I:σ→Prop) (st:σ→St) (μ:σ→Nat)
  (step:∀x,I x→W P K nt n0 body (st x) (Ex (fun s'=>∃y,I y∧μ y<μ x∧Cl K nt n0 s' (st y)) Q)):∀x,I x→C6 P K nt n0 (.loop body) (st x) Q:=by
 have key:∀n x,μ x<n→I x→Rk P K nt n0 body n (st x) Q:=by
  intro n
  induction n with
  |zero=>intro x h;omega
  |succ n ih=>
   intro x hx hI
   refine Rk.succ ((Uw hm body _ _ (step x hI)).mono fun ex s' h=> ?_)
   cases ex with
   |normal=>
    obtain ⟨y,hy,hlt,hw⟩:=h
    exact (ih y (by omega) hy).He hw
   |exit i=>exact h
   |ret=>exact h
 exact fun x hI=> .loop (key (μ x+1) x (by omega) hI)
mutual
def Is (π:Nat→Nat):AV→AV
 |.agg cs=> .agg (Hf π cs)
 |.B4 cs=> .B4 (Hf π cs)
 |.ptr id off=> .ptr (π id) off
 |.Dn cs off=> .Dn (Hf π cs) off
 |.Ek n cs ex=> .Ek n (Hf π cs) ex
 |.sl id off esz n cap ex=> .sl (π id) off esz n cap ex
 |.fn f cs=> .fn f (Hf π cs)
 |x=>x
def Hf (π:Nat→Nat):List AV→List AV
 |[]=>[]
 |x::xs=>Is π x::Hf π xs
end
mutual
theorem Gg (π:Nat→Nat):∀{x:AV},clean x=true→Is π x=x
 |.E9,_=>rfl
 |.sc _,_=>rfl
 |.agg cs,h=>by simp only [Is];rw [Gn π (by simpa [clean] using h)]
 |.B4 cs,h=>by simp only [Is];rw [Gn π (by simpa [clean] using h)]
 |.Ki,_=>rfl
 |.ptr ..,h=>by simp [clean] at h
 |.Dn cs off,h=>by simp only [Is];rw [Gn π (by simpa [clean] using h)]
 |.B1,_=>rfl
 |.Ek n cs ex,h=>by simp only [Is];rw [Gn π (by simpa [clean] using h)]
 |.sl ..,h=>by simp [clean] at h
 |.fn f cs,h=>by simp only [Is];rw [Gn π (by simpa [clean] using h)]
 |.oN _,_=>rfl
theorem Gn (π:Nat→Nat):∀{xs:List AV},Av xs=true→Hf π xs=xs
 |[],_=>rfl
 |x::xs,h=>by
  simp only [Av,Bool.and_eq_true] at h
  simp only [Hf];rw [Gg π h.1,Gn π h.2]
end
def Cx.Is (c:Cx) (π:Nat→Nat) (m0:Mem):Cx:={w:=c.w,f:=fun id=>c.f (π id),al:=fun id=>c.al (π id),M:=Am m0,no:=c.no}
section
variable {c:Cx} {π:Nat→Nat} {m0:Mem}
theorem Je (ho:∀b,(c.Is π m0).own b→c.own b) {b:Nat} (h:c.Ch b):(c.Is π m0).Ch b:=⟨h.1,fun h'=>h.2.1 (ho b h'),h.2.2⟩
mutual
theorem Oa (ho:∀b,(c.Is π m0).own b→c.own b):∀{x:AV} {v:Value},B9 c (Go.Proofs.YtmhnnmfcjdnlhaaGreatDoor.Is π x) v→B9 (c.Is π m0) x v
 |.E9,v,_=> .E9 v
 |.sc u,v,h=>by simp only [Go.Proofs.YtmhnnmfcjdnlhaaGreatDoor.Is] at h;cases h with|sc _ hv=>exact .sc _ hv
 |.agg cs,v,h=>by simp only [Go.Proofs.YtmhnnmfcjdnlhaaGreatDoor.Is] at h;cases h with|agg hr=>exact .agg (Ih ho hr)
 |.B4 cs,v,h=>by simp only [Go.Proofs.YtmhnnmfcjdnlhaaGreatDoor.Is] at h;cases h with|B4 hr=>exact .B4 (Ih ho hr)
 |.Ki,v,h=>by simp only [Go.Proofs.YtmhnnmfcjdnlhaaGreatDoor.Is] at h;cases h;exact .Ki
 |.ptr id off,v,h=>by simp only [Go.Proofs.YtmhnnmfcjdnlhaaGreatDoor.Is] at h;cases h with|ptr ha=>exact B9.ptr (c:=c.Is π m0) (id:=id) ha off
 |.Dn cs off,v,h=>by simp only [Go.Proofs.YtmhnnmfcjdnlhaaGreatDoor.Is] at h;cases h with|Dn hb hr hc off=>exact B9.Dn (c:=c.Is π m0) (Je ho hb) (Ih ho hr) hc off
 |.B1,v,h=>by simp only [Go.Proofs.YtmhnnmfcjdnlhaaGreatDoor.Is] at h;cases h;exact .B1
 |.Ek n cs ex,v,h=>by
  simp only [Go.Proofs.YtmhnnmfcjdnlhaaGreatDoor.Is] at h
  generalize hcs:Hf π cs=cs' at h
  cases h with
  |Ga a cap ex he hm hn=>
   cases cs with
   |nil=>exact .Ga a cap ex he hm hn
   |cons y ys=>simp [Hf] at hcs
  |Ek hb hr hc hn he hm=>rw [← hcs] at hr;exact B9.Ek (c:=c.Is π m0) (Je ho hb) (Ih ho hr) hc hn he hm
 |.sl id off esz n cap ex,v,h=>by simp only [Go.Proofs.YtmhnnmfcjdnlhaaGreatDoor.Is] at h;cases h with|sl ha hb hs hn hc he hm=>exact B9.sl (c:=c.Is π m0) (id:=id) ha hb hs hn hc he hm
 |.fn f cs,v,h=>by simp only [Go.Proofs.YtmhnnmfcjdnlhaaGreatDoor.Is] at h;cases h with|fn f hr=>exact .fn f (Ih ho hr)
 |.oN p,v,h=>by
  simp only [Go.Proofs.YtmhnnmfcjdnlhaaGreatDoor.Is] at h
  cases h with
  |Pj=>exact .Pj
  |Qe u q=>exact .Qe u q
theorem Ih (ho:∀b,(c.Is π m0).own b→c.own b):∀{xs:List AV} {vs:List Value},Cf c (Hf π xs) vs→Cf (c.Is π m0) xs vs
 |[],vs,h=>by simp only [Hf] at h;cases h;exact .nil
 |x::xs,vs,h=>by simp only [Hf] at h;cases h with|cons h1 h2=>exact .cons (Oa ho h1) (Ih ho h2)
end
end
theorem jN {s:St} {e0:List (Nat×AV)} {m0:Mem} {nx0:Nat} (π:Nat→Nat) (h0:n0≤nx0) (h1:∀id,id<n0→π id=id) (h5:∀id,nx0≤id→s.nx≤π id)
  (h2:∀t,Fb e0 t=.E9∨Fb s.e t=Is π (Fb e0 t)) (h3:∀id b,Am m0 id=some b→∃b',Am s.m (π id)=some b'∧b'.ty=b.ty∧b'.cells=Hf π b.cells) (h4:∀id id' b b',Am m0 id=some b→Am m0 id'=some b'→π id=π id'→id=id'):Cl K nt n0 s ⟨e0,m0,nx0⟩:=by
 intro B c0 cx a sr st hn
 have hM:∀id b,Am m0 id=some b→∃b',cx.M (π id)=some b'∧b'.ty=b.ty∧b'.cells=Hf π b.cells:=fun id b h=>by
  obtain ⟨b',k1,k2⟩:=h3 id b h
  exact ⟨b',by rw [sr.m];exact k1,k2⟩
 have ho:∀b,(cx.Is π m0).own b→cx.own b:=by
  rintro b ⟨id,Cr,k1,k2⟩
  obtain ⟨b',k3,-⟩:=hM id Cr k1
  exact ⟨π id,b',k3,k2⟩
 refine ⟨cx.Is π m0,⟨⟨sr.g.hB,fun id Cr h=> ?_,fun id Cr h=> ?_,sr.g.K6,fun id id' Cr blk' h h' hf=> ?_⟩,fun t=> ?_,fun _=>rfl,fun id h=> ?_,sr.sz,sr.df,?_⟩,⟨st.os,st.tape,st.output,st.size,st.Cr,fun b hb h=>st.own b hb (ho b h),fun id h=> ?_,fun id h=> ?_,st.no,st.Yf,st.drawn⟩,rfl⟩
 ·obtain ⟨b',k3,-⟩:=hM id Cr h
  exact sr.g.low (π id) b' k3
 ·obtain ⟨b',k3,k4,k5⟩:=hM id Cr h
  obtain ⟨arr,vs,rest,q1,q2,q3⟩:=sr.g.Cr (π id) b' k3
  rw [k5] at q3
  exact ⟨arr,vs,rest,by rw [← k4];exact q1,q2,Ih ho q3⟩
 ·obtain ⟨b1,k1,-⟩:=hM id Cr h
  obtain ⟨b2,k2,-⟩:=hM id' blk' h'
  exact h4 id id' Cr blk' h h' (sr.g.inj (π id) (π id') b1 b2 k1 k2 hf)
 ·rcases h2 t with h|h
  ·show B9 _ (Fb e0 t) _
   rw [h];exact .E9 _
  ·have:=sr.e t
   rw [h] at this
   exact Oa ho this
 ·have k:cx.al (π id):=h
  have:=sr.al _ k
  rcases Nat.lt_or_ge id nx0 with h'|h'
  ·exact h'
  ·have:=h5 id h';omega
 ·intro g cs hg
  obtain ⟨k1,k2,k3⟩:=sr.gl g cs hg
  refine ⟨k1,Oa ho ?_,fun q=>(k3 q).Cn (c:=cx) (c0:=cx.Is π m0) rfl fun b h=>Je ho h⟩
  rw [Gg π (by simpa [clean] using k1)]
  exact k2
 ·have:=h1 id (hn id h)
  show cx.f (π id)=c0.f id
  rw [this];exact st.f id h
 ·have:=h1 id (hn id h)
  show cx.al (π id)
  rw [this];exact st.al id h
def Aib (e0:List (Nat×AV)) (p:Nat→AV→Bool):Bool:=e0.all fun q=>p q.1 q.2
theorem Q3:∀(e:List (Nat×AV)) (t:Nat),Fb e t=.E9∨(t,Fb e t)∈e
 |[],t=> .inl rfl
 |(j,v)::r,t=>by
  unfold Fb
  cases h:Nat.beq j t with
  |true=>simp only [cond_true];rw [beq_true h];exact .inr (by simp)
  |false=>
   simp only [cond_false]
   rcases Q3 r t with h|h
   ·exact .inl h
   ·exact .inr (by simp [h])
theorem aI {s:St} {e0:List (Nat×AV)} {nx0:Nat} (h0:n0≤nx0) (h:∀p∈e0,Fb s.e p.1=p.2∧clean p.2=true):Cl K nt n0 s ⟨e0,[],nx0⟩:=by
 refine jN (fun id=>if id<n0 then id else s.nx+id) h0 (fun id h=>by simp [h]) (fun id h=>by rw [if_neg (by omega)];omega) (fun t=> ?_) (fun id b h=>by simp [Am] at h) (fun id id' b b' h=>by simp [Am] at h)
 rcases Q3 e0 t with h1|h1
 ·exact .inl h1
 ·obtain ⟨k1,k2⟩:=h _ h1
  exact .inr (by rw [Gg _ k2];exact k1)
def okE (e:List (Nat×AV)):List (Nat×AV)→Prop
 |[]=>True
 |(t,v)::r=>(Fb e t=v∧clean v=true)∧okE e r
theorem dT {e:List (Nat×AV)}:∀{e0:List (Nat×AV)},okE e e0→∀p∈e0,Fb e p.1=p.2∧clean p.2=true
 |[],_,p,hp=>by simp at hp
 |(t,v)::r,h,p,hp=>by
  rcases List.mem_cons.1 hp with rfl|hp
  ·exact h.1
  ·exact dT h.2 p hp
theorem Qm {s:St} {e0:List (Nat×AV)} {nx0:Nat} (h0:Nat.ble n0 nx0=true) (h:okE s.e e0):Cl K nt n0 s ⟨e0,[],nx0⟩:=aI (Nat.le_of_ble_eq_true h0) (dT h)
theorem Dx {e:List (Nat×AV)} {t:Nat} {v:AV} {r:List (Nat×AV)} (h:Fb e t=v) (h':clean v=true) (hr:okE e r):okE e ((t,v)::r):=⟨⟨h,h'⟩,hr⟩
end
end Go.Proofs.YtmhnnmfcjdnlhaaGreatDoor
set_option linter.unusedVariables false
set_option linter.unusedSimpArgs false
namespace Go.Proofs.YtmhnnmfcjdnlhaaGreatDoor
open Go.RowKit
structure En (α:Type) where
 size:Nat
 enc:α→List AV
 len:∀x,(enc x).length=size
 pos:0<size
 cell:∀x,(enc x).all Cq=true
 Di:∀x,Av (enc x)=true
 Yp:∀x,Hd (enc x)=enc x
def Bl {α:Type} (E:En α) (l:List α):List AV:=l.flatMap E.enc
abbrev As {α:Type} (E:En α) (l:List α):AV:=.Ek l.length (Bl E l) false
abbrev Aa (z:Int):AV:=.sc (.int .i64 z)
abbrev Ah (b:Bool):AV:=.sc (.bool b)
abbrev Az (s:ByteArray):AV:=.sc (.string s)
section
variable {α:Type} {E:En α}
theorem Rv:Bl E []=[]:=rfl
theorem Er (x:α) (l:List α):Bl E (x::l)=E.enc x++Bl E l:=rfl
theorem E4 (l k:List α):Bl E (l++k)=Bl E l++Bl E k:=by simp [Bl]
theorem mN (x:α):Bl E [x]=E.enc x:=by simp [Bl]
theorem Cm (l:List α):(Bl E l).length=l.length*E.size:=by
 induction l with
 |nil=>simp [Bl]
 |cons x l ih=>rw [Er,List.length_append,ih,E.len,List.length_cons,Nat.add_mul,Nat.one_mul,Nat.add_comm]
theorem Mj (l:List α) (i:Nat):(Bl E l).drop (i*E.size)=Bl E (l.drop i):=by
 induction l generalizing i with
 |nil=>simp [Bl]
 |cons x l ih=>
  cases i with
  |zero=>simp
  |succ i=>
   rw [Er,List.drop_append,List.drop_succ_cons,E.len]
   have h1:(E.enc x).drop ((i+1)*E.size)=[]:=List.drop_eq_nil_of_le (by rw [E.len,Nat.add_mul];omega)
   have h2:(i+1)*E.size-E.size=i*E.size:=by rw [Nat.add_mul];omega
   rw [h1,h2,List.nil_append,ih]
theorem hT (l:List α) (i:Nat):(Bl E l).take (i*E.size)=Bl E (l.take i):=by
 induction l generalizing i with
 |nil=>simp [Bl]
 |cons x l ih=>
  cases i with
  |zero=>simp [Bl]
  |succ i=>
   rw [Er,List.take_append,List.take_succ_cons,E.len,Er]
   have h1:(E.enc x).take ((i+1)*E.size)=E.enc x:=List.take_of_length_le (by rw [E.len,Nat.add_mul];omega)
   have h2:(i+1)*E.size-E.size=i*E.size:=by rw [Nat.add_mul];omega
   rw [h1,h2,ih]
theorem Pm (l:List α) (i:Nat) (h:i<l.length):elemAt E.size (Bl E l) i=E.enc l[i]:=by
 unfold elemAt
 rw [Mj,List.drop_eq_getElem_cons h,Er,List.take_append_of_le_length (by rw [E.len];exact Nat.le_refl _),List.take_of_length_le (by rw [E.len];exact Nat.le_refl _)]
theorem Ib:∀(a b:List AV),Av (a++b)=(Av a && Av b)
 |[],b=>by simp [Av]
 |x::a,b=>by simp [Av,Ib a b,Bool.and_assoc]
theorem Oe:∀(a b:List AV),Hd (a++b)=Hd a++Hd b
 |[],b=>by simp [Hd]
 |x::a,b=>by simp [Hd,Oe a b]
theorem Al (l:List α):Av (Bl E l)=true:=by
 induction l with
 |nil=>rfl
 |cons x l ih=>rw [Er,Ib,E.Di,ih];rfl
theorem H3 (l:List α):Hd (Bl E l)=Bl E l:=by
 induction l with
 |nil=>rfl
 |cons x l ih=>rw [Er,Oe,E.Yp,ih]
theorem Ff (l:List α):(Bl E l).all Cq=true:=by
 induction l with
 |nil=>rfl
 |cons x l ih=>rw [Er,List.all_append,E.cell,ih];rfl
theorem M5 (look:Nat→Option B5) (k:Nat):∀(cs:List AV),cs.all Cq=true→Av cs=true→Iy (freeze look (k+1)) cs=some cs
 |[],_,_=>rfl
 |x::cs,h1,h2=>by
  simp only [List.all_cons,Bool.and_eq_true] at h1
  simp only [Av,Bool.and_eq_true] at h2
  have hx:freeze look (k+1) x=some x:=by
   cases x<;>simp [Cq] at h1<;>simp [clean] at h2<;>simp [freeze,clean,h2]
  unfold Iy
  rw [hx,M5 look k cs h1.2 h2.2]
theorem Sd (look:Nat→Option B5) (k:Nat):∀(cs:List AV),cs.all Cq=true→(∀x∈cs,∀f l,x≠.fn f l)→Av cs=true→Iy (snap look (k+1)) cs=some cs
 |[],_,_,_=>rfl
 |x::cs,h1,h3,h2=>by
  simp only [List.all_cons,Bool.and_eq_true] at h1
  simp only [Av,Bool.and_eq_true] at h2
  have hx:snap look (k+1) x=some x:=by
   cases x with
   |fn f l=>exact absurd rfl (h3 _ (by simp) f l)
   |_=>simp [Cq] at h1<;>simp [clean] at h2<;>simp [snap,clean,h2]
  unfold Iy
  rw [hx,Sd look k cs h1.2 (fun y hy=>h3 y (by simp [hy])) h2.2]
theorem Oh {b:Bool} {x y:Prop} (h1:b=true→x) (h2:b=false→y):bif b then x else y:=by cases b<;>simp_all
variable {P:Program} {look:Nat→Option B5} {t yt ty n:Nat}
theorem dY {op:BinOp} {a b v:Value} (h:Mh op a b=some v):Cs P (.binOp op t (.tmp 0) (.tmp 1) yt) ty [.sc a,.sc b] look n=some (.sc v,[]):=by simp [Cs,Nx,qJ,Jx,h]
theorem Nt {sz:Nat} (hs:E.size=sz) (l:List α) (ex:Bool) (i:Nat) (h:i<l.length):Eb sz (.Ek l.length (Bl E l) ex) (.sc (.int .i64 (i:Int)))=some (.Dn (E.enc l[i]) 0,[]):=by
 subst hs
 have h1:decide ((0:Int)≤(i:Int))=true:=by simp
 have h2:decide ((i:Int)<(l.length:Int))=true:=by simpa using h
 simp only [Eb,h1,h2,Bool.true_or,Bool.and_self,cond_true,Int.toNat_natCast,Pm l i h]
theorem Wm {cs:List AV} {off:Nat} {x:AV} (h:cs[off]?=some x):Fm look (.Dn cs off)=some (x,[]):=by simp [Fm,h]
theorem Cp {id off:Nat} {b:B5} {x:AV} (hb:look id=some b) (h:b.cells[off]?=some x):Fm look (.ptr id off)=some (x,[]):=by simp [Fm,hb,h]
theorem wrap64 {z:Int} (h1: -9223372036854775808≤z) (h2:z≤9223372036854775807):IntKind.wrap .i64 z=z:=IntWalk.i64_in z ⟨h1,h2⟩
theorem n8 {l:List α} {ex:Bool} {k:Bool→Prop} (h:∀b,(b=true→l=[])→k b):Yb (.Ek l.length (Bl E l) ex) k:=by
 cases l with
 |nil=>exact fun b=>h b fun _=>rfl
 |cons x l=>
  have hx:Bl E (x::l)≠[]:=by
   intro e
   have:=congrArg List.length e
   rw [Cm] at this
   have hp:=E.pos
   simp only [List.length_cons,List.length_nil] at this
   have:(l.length+1)*E.size≥1*1:=Nat.mul_le_mul (by omega) hp
   omega
  unfold Yb
  split
  ·rename_i h';cases h'
  ·rename_i h'
   cases h'
   split
   ·rename_i h';exact absurd h' hx
   ·exact h false (fun h=>by cases h)
  ·rename_i h';cases h'
  ·rename_i h1 h2 h3;exact absurd rfl (h2 _ _ _)
theorem sS {e sz by_:Nat} {zs:List AV} {m:Nat} {x:AV} (hs:E.size=sz) (l:List α) {ex:Bool} (h0:l≠[]) (hb:l.length*by_≤140737488355328) (hb2:l.length≤4611686018427387904) (hz:zs.length=sz) (id off cap:Nat) (b:B5) (hl:look id=some b) (hoff:off+0≤b.cells.length):
  app look e sz by_ zs m (.sl id off sz 0 0 true) (.Ek l.length (Bl E l) ex)=some (.sl m 0 sz l.length l.length false,[(m,some ⟨Bl E l,e⟩)]):=by
 subst hs
 have hp:=E.pos
 have hlen:0<l.length:=List.length_pos_iff.2 h0
 have c1:cellsOf look E.size (.Ek l.length (Bl E l) ex)=some (l.length,Bl E l):=by
  simp only [cellsOf,Cm,Nat.beq_refl,cond_true]
 have c2:cellsOf look E.size (.sl id off E.size 0 0 true)=some (0,[]):=by
  have:Nat.ble (off+0) b.cells.length=true:=Nat.ble_eq_true_of_le hoff
  simp only [cellsOf,hl,Nat.zero_mul,this,Nat.beq_refl,Bool.true_or,Bool.and_self,cond_true,Nat.zero_mul,List.take_zero]
 have t1:Nat.beq l.length 0=false:=by
  cases h:Nat.beq l.length 0 with
  |false=>rfl
  |true=>have:=Nat.eq_of_beq_eq_true h;omega
 have t2:Nat.ble (l.length*by_) 140737488355328=true:=Nat.ble_eq_true_of_le hb
 have t3:Nat.ble l.length 4611686018427387904=true:=Nat.ble_eq_true_of_le (by omega)
 have t4:Nat.beq zs.length E.size=true:=by rw [hz];exact Nat.beq_refl _
 have t5:Nat.ble 1 E.size=true:=Nat.ble_eq_true_of_le hp
 have t6:Nat.beq (Bl E l).length (l.length*E.size)=true:=by rw [Cm];exact Nat.beq_refl _
 have t7:Nat.beq ([]:List AV).length (0*E.size)=true:=by simp
 have t8:Nat.ble l.length 0=false:=by
  cases h:Nat.ble l.length 0 with
  |false=>rfl
  |true=>have:=Nat.le_of_ble_eq_true h;omega
 simp only [app,c1,c2,t1,cond_false,Nat.zero_add,t2,t3,t4,t5,t6,t7,t8,Ff,Bool.true_or,Bool.and_self,cond_true,Nat.zero_add,List.nil_append]
end
end Go.Proofs.YtmhnnmfcjdnlhaaGreatDoor
