/- A part. -/
import Derived.Test.YtmechmjjcgdpdaaGreatDoorPC
import Derived.IntWalk
set_option linter.unusedVariables false
set_option linter.unusedSimpArgs false
namespace Go.Proofs.YtmechmjjcgdpdaaGreatDoor
open Go.RowKit
section
variable {P:Program} {K:I5}
def Jd (P:Program) (gl:Nat→Option (List AV)) (look:Nat→Option Bk) (f:FuncId) (args:List AV) (v:AV):Prop:=
 Dp P f∧∀(B:Nat) (c:Cx) (vals:List Value),Good B c→B2 gl c→(∀id b,look id=some b→c.M id=some b)→Be c args vals→Calls P f vals.toArray c.w (P8 B c v)
def Gw (P:Program) (gl:Nat→Option (List AV)) (look:Nat→Option Bk) (n:Nat) (f:FuncId) (args:List AV) (v:AV) (d:Wr):Prop:=
 Dp P f∧∀(B:Nat) (c:Cx) (vals:List Value),Good B c→B2 gl c→¬c.al n→(∀id b,look id=some b→c.M id=some b)→Be c args vals→Calls P f vals.toArray c.w (Du B c n v d)
theorem Jd.toD {gl:Nat→Option (List AV)} {look:Nat→Option Bk} {n:Nat} {f:FuncId} {args:List AV} {v:AV} (h:Jd P gl look f args v):Gw P gl look n f args v []:=⟨h.1,fun B c vals g hgl hn hl hr=>(h.2 B c vals g hgl hl hr).mono fun _ _ h=>h.toD⟩
def Cj (P:Program) (gl:Nat→Option (List AV)) (f:FuncId) (args:List AV) (v:AV):Prop:=Ap args=true∧clean v=true∧Jd P gl (fun _=>none) f args v
def evalsTo (P:Program) (K:I5) (k:Nat) (f:FuncId):Option Bool:=
 match Amo P K k f [] [] 0 with
 |some (.sc (.bool b),_,_)=>some b
 |_=>none
end
end Go.Proofs.YtmechmjjcgdpdaaGreatDoor
set_option linter.unusedVariables false
set_option linter.unusedSimpArgs false
namespace Go.Proofs.YtmechmjjcgdpdaaGreatDoor
open Go.RowKit
abbrev Mem:=List (Nat×Option Bk)
def Aif:Op→Bool
 |.alloc _=>true
 |.box _ _=>true
 |.store ..=>true
 |.buildSlice ..=>true
 |.makeSlice ..=>true
 |.call c=>match c.callee with
  |.builtin .append=>true
  |.builtin .copy=>true
  |.builtin .clear=>true
  |_=>false
 |_=>false
def Adb:Op→Bool
 |.call {callee:=.value (.func f),..}=>wcall f
 |_=>false
def Amw (o:Oper):Bool:=Aif o.op||Adb o.op
def Bg (r:Ht) (k:AV→Prop):Prop:=match r with
 |some (v,[])=>k v
 |_=>False
def Gb (r:Ht) (k:AV→Wr→Prop):Prop:=match r with
 |some (v,d)=>k v d
 |none=>False
def spl (v:AV) (x y:Prop):Prop:=match v with
 |.sc (.bool b)=>bif b then x else y
 |_=>False
def isG (ops:Array Oper) (i:Nat):Bool:=ops.toList.any fun o=>match o.guard with
 |some (j,_)=>Nat.beq j i
 |none=>false
def Is (g:Bool) (v:AV) (k:AV→Prop):Prop:=bif g then spl v (k (.sc (.bool true))) (k (.sc (.bool false))) else k v
def O2 (nt:Nat) (e:List (Nat×AV)) (dst:Option Nat) (v:AV) (k:List (Nat×AV)→Prop):Prop:=match Qd nt e dst v with
 |some e=>k e
 |none=>False
def Ep (P:Program) (gl:Nat→Option (List AV)) (m:Mem) (nx:Nat) (f:FuncId) (args:List AV) (k:AV→Mem→Prop):Prop:=
 Dp P f∧∀(B:Nat) (c:Cx) (vals:List Value),Good B c→B2 gl c→(∀id,c.M id=Ao m id)→(∀id,c.al id→id<nx)→Be c args vals→Calls P f vals.toArray c.w (fun e w'=>∃v m',k v m'∧Fm B c v m' (nx+64) e w')
def Bj (P:Program) (gl:Nat→Option (List AV)) (m:Mem) (f:FuncId) (args:List AV) (k:AV→Prop):Prop:=∃v,(Jd P gl (Ao m) f args v∨nJ P (Ao m) f args v)∧k v
def Va (P:Program) (gl:Nat→Option (List AV)) (m:Mem) (n:Nat) (f:FuncId) (args:List AV) (k:AV→Wr→List Nat→Prop):Prop:=∃v d ft,(Gw P gl (Cf m ft) n f args v d∨(nJ P (Cf m ft) f args v∧d=[]))∧k v d ft
def I0 (g:Option AV) (ar:Option (List AV)) (k:FuncId→List AV→Prop):Prop:=match g,ar with
 |some (.fn f caps),some ar=>k f (ar++caps)
 |_,_=>False
inductive jQ where
 |any
 |int (k:IntKind)
 |bool
 |str
 |flt
 |agg (l:List jQ)
 |Bn (l:List jQ)
def zE:jQ→List jQ
 |.agg l=>l
 |s=>[s]
def shapeOf (P:Program):Nat→TypeId→jQ
 |0,_=> .any
 |f+1,t=>match P.underlying t with
  |some (.int k)=> .int k
  |some .bool=> .bool
  |some .string=> .str
  |some (.float .f64)=> .flt
  |some (.struct fs)=> .agg (fs.toList.flatMap fun fd=>zE (shapeOf P f fd.type))
  |some (.array n e)=> .agg ((List.replicate n (zE (shapeOf P f e))).flatten)
  |some (.tuple ts)=> .Bn (ts.toList.map (shapeOf P f))
  |_=> .any
def xG:jQ→jQ
 |.agg l=>bif Nat.ble l.length 24 then .agg l else .any
 |s=>s
def Y9 (P:Program) (t:TypeId):jQ:=match shapeOf P 8 t with
 |.Bn l=> .Bn (l.map xG)
 |s=>xG s
def Ah2 (v:AV) (k:Int→Prop):Prop:=match v with
 |.sc (.int .i8 z)=>k z
 |_=>False
def zF (v:AV) (k:Int→Prop):Prop:=match v with
 |.sc (.int .i16 z)=>k z
 |_=>False
def xR (v:AV) (k:Int→Prop):Prop:=match v with
 |.sc (.int .i32 z)=>k z
 |_=>False
def Af (v:AV) (k:Int→Prop):Prop:=match v with
 |.sc (.int .i64 z)=>k z
 |_=>False
def oS (v:AV) (k:Int→Prop):Prop:=match v with
 |.sc (.int .u8 z)=>k z
 |_=>False
def xS (v:AV) (k:Int→Prop):Prop:=match v with
 |.sc (.int .u16 z)=>k z
 |_=>False
def x3 (v:AV) (k:Int→Prop):Prop:=match v with
 |.sc (.int .u32 z)=>k z
 |_=>False
def Lz (v:AV) (k:Int→Prop):Prop:=match v with
 |.sc (.int .u64 z)=>k z
 |_=>False
def exK:IntKind→AV→(Int→Prop)→Prop
 |.i8,v,q=>Ah2 v q
 |.i16,v,q=>zF v q
 |.i32,v,q=>xR v q
 |.i64,v,q=>Af v q
 |.u8,v,q=>oS v q
 |.u16,v,q=>xS v q
 |.u32,v,q=>x3 v q
 |.u64,v,q=>Lz v q
def Iv (v:AV) (k:Bool→Prop):Prop:=match v with
 |.sc (.bool b)=>k b
 |_=>False
def Ei (v:AV) (k:ByteArray→Prop):Prop:=match v with
 |.sc (.string s)=>k s
 |_=>False
def exF (v:AV) (k:Nat→Prop):Prop:=match v with
 |.sc (.float .f64 x)=>k x
 |_=>False
def exL:Nat→List AV→(List AV→Prop)→Prop
 |0=>fun cs k=>match cs with
  |[]=>k []
  |_::_=>False
 |n+1=>fun cs k=>match cs with
  |[]=>False
  |x::xs=>exL n xs fun l=>k (x::l)
def E1 (n:Nat) (v:AV) (k:List AV→Prop):Prop:=match v with
 |.agg cs=>exL n cs k
 |_=>False
def N3 (n:Nat) (v:AV) (k:List AV→Prop):Prop:=match v with
 |.Bn cs=>exL n cs k
 |_=>False
def Rc (f:jQ→AV→(AV→Prop)→Prop):List jQ→List AV→(List AV→Prop)→Prop
 |s::ss,x::xs,k=>f s x fun y=>Rc f ss xs fun ys=>k (y::ys)
 |[],[],k=>k []
 |_,_,_=>False
def L4:Nat→jQ→AV→(AV→Prop)→Prop
 |0,_,v,k=>k v
 |_+1,.any,v,k=>k v
 |_+1,.int ik,v,k=>exK ik v fun z=>k (.sc (.int ik z))
 |_+1,.bool,v,k=>Iv v fun b=>k (.sc (.bool b))
 |_+1,.str,v,k=>Ei v fun s=>k (.sc (.string s))
 |_+1,.flt,v,k=>exF v fun x=>k (.sc (.float .f64 x))
 |f+1,.agg l,v,k=>E1 l.length v fun cs=>Rc (L4 f) l cs fun cs=>k (.agg cs)
 |f+1,.Bn l,v,k=>N3 l.length v fun cs=>Rc (L4 f) l cs fun cs=>k (.Bn cs)
def G1 (P:Program) (o:Oper):jQ:=match o.op with
 |.load t _=>Y9 P t
 |.call _=>Y9 P o.type
 |.convert _ d _=>Y9 P d
 |.index ..=>Y9 P o.type
 |.field ..=>Y9 P o.type
 |.unOp _ t _=>Y9 P t
 |.binOp op t _ _ _=>(match op with
  |.eql=> .bool
  |.neq=> .bool
  |.lss=> .bool
  |.leq=> .bool
  |.gtr=> .bool
  |.geq=> .bool
  |_=>Y9 P t)
 |_=> .any
theorem pQ {ik:IntKind} {v:AV} {k:AV→Prop} (h:exK ik v fun z=>k (.sc (.int ik z))):k v:=by
 cases ik<;>(simp only [exK,Ah2,zF,xR,Af,oS,xS,x3,Lz] at h;split at h;(exact h);(exact h.elim))
theorem T1:∀{n:Nat} {cs:List AV} {k:List AV→Prop},exL n cs k→k cs
 |0,[],k,h=>h
 |n+1,x::xs,k,h=>T1 (n:=n) (cs:=xs) (k:=fun l=>k (x::l)) h
 |0,_::_,k,h=>by simp [exL] at h
 |_+1,[],k,h=>by simp [exL] at h
theorem L8 {f:jQ→AV→(AV→Prop)→Prop} (hf:∀s v k,f s v k→k v):∀{ss:List jQ} {cs:List AV} {k:List AV→Prop},Rc f ss cs k→k cs
 |s::ss,x::xs,k,h=>L8 hf (ss:=ss) (cs:=xs) (k:=fun ys=>k (x::ys)) (hf s x _ h)
 |[],[],k,h=>h
 |[],_::_,k,h=>by simp [Rc] at h
 |_::_,[],k,h=>by simp [Rc] at h
theorem J5:∀(f:Nat) (s:jQ) (v:AV) (k:AV→Prop),L4 f s v k→k v
 |0,_,v,k,h=>h
 |_+1,.any,v,k,h=>h
 |_+1,.int ik,v,k,h=>pQ h
 |_+1,.bool,v,k,h=>by
  simp only [L4,Iv] at h
  split at h
  ·exact h
  ·exact h.elim
 |_+1,.str,v,k,h=>by
  simp only [L4,Ei] at h
  split at h
  ·exact h
  ·exact h.elim
 |_+1,.flt,v,k,h=>by
  simp only [L4,exF] at h
  split at h
  ·exact h
  ·exact h.elim
 |f+1,.agg l,v,k,h=>by
  simp only [L4,E1] at h
  split at h
  ·exact L8 (J5 f) (T1 h)
  ·exact h.elim
 |f+1,.Bn l,v,k,h=>by
  simp only [L4,N3] at h
  split at h
  ·exact L8 (J5 f) (T1 h)
  ·exact h.elim
def Ac (m:Mem):Wr→Mem
 |[]=>m
 |p::r=>Ac (p::m) r
theorem Mf (d:Wr):∀(m:Mem) (id:Nat),Ao (Ac m d) id=Wh (Ao m) d id:=by
 induction d with
 |nil=>intro m id;rfl
 |cons p r ih=>
  obtain ⟨i,v⟩:=p
  intro m id
  unfold Ac Wh
  rw [ih]
  congr 1
  funext k
  show (bif Nat.beq i k then v else Ao m k)=_
  cases h:Nat.beq i k with
  |true=>simp [beq_true h]
  |false=>have:=beq_false h;simp only [cond_false];rw [if_neg (fun e=>this e.symm)]
def Hv (b:Bool) (p:Prop):Prop:=bif b then p else False
def Zf:List AV→Prop→Prop
 |[],p=>p
 |x::r,p=>Hv (B7 x) (Zf r p)
def Rl (P:Program) (t:TypeId) (x:AV) (k:List AV→Prop):Prop:=match P.underlying t with
 |some d=>bif It d then (match x,Df P t with
   |.agg cs,some n=>Hv (Nat.beq cs.length n) (Zf cs (k cs))
   |_,_=>False) else (match Df P t with
   |some 1=>Hv (B7 x) (k [x])
   |_=>False)
 |none=>False
def C4 (P:Program) (look:Nat→Option Bk) (t:TypeId) (a x:AV) (k:AV→Wr→Prop):Prop:=match a with
 |.ptr id off=>(match look id with
  |some b=>Rl P t x fun cs=>Hv (Nat.ble (off+cs.length) b.cells.length) (k .El [(id,some ⟨C9 b.cells off cs,b.ty⟩)])
  |none=>False)
 |_=>False
def Alb (P:Program) (t:TypeId) (n:Nat) (x:AV) (k:AV→Wr→Prop):Prop:=Rl P t x fun cs=>k (.ptr n 0) [(n,some ⟨cs,t⟩)]
section
variable (P:Program) (K:I5) (nt:Nat) (ops:Array Oper)
def iK (x:AV) (k:Bool→Prop):Prop:=match x with
 |.Bp=>k true
 |.Dh _ cs _=>(match cs with
  |[]=>∀b,k b
  |_::_=>k false)
 |.sl ..=>k false
 |_=>False
def Rb:Operand→Bool
 |.const (.slice none 0 0)=>true
 |_=>false
def Xb (P:Program) (t:TypeId):Bool:=match P.underlying t with
 |some (.slice _)=>true
 |_=>false
def opW (s:St) (o:Oper) (k:AV→Mem→Nat→Prop):Prop:=
 match o.op with
 |.call {callee:=.value g,args,..}=>I0 (Ic K.gl s.e g) (opts (Ic K.gl s.e) args.toList) fun f ar=>bif K.pm f then Bj P K.gl s.m f ar (fun v=>k v s.m (s.nx+64)) else Ep P K.gl s.m s.nx f ar (fun v m=>k v m (s.nx+64))
 |.store t a x=>(match Ic K.gl s.e a,Ic K.gl s.e x with
  |some a,some x=>C4 P (Ao s.m) t a x fun v d=>k v (Ac s.m d) (s.nx+1)
  |_,_=>False)
 |.box t x=>(match Ic K.gl s.e x with
  |some x=>Alb P t s.nx x fun v d=>k v (Ac s.m d) (s.nx+1)
  |none=>False)
 |.binOp .eql t x y _=>bif Xb P t && Rb y then (match Ic K.gl s.e x with
   |some x=>iK x fun b=>k (.sc (.bool b)) s.m (s.nx+1)
   |none=>False) else Bg (Ou P (Ic K.gl s.e) (Ao s.m) s.nx o) fun v=>k v s.m (s.nx+1)
 |.binOp .neq t x y _=>bif Xb P t && Rb y then (match Ic K.gl s.e x with
   |some x=>iK x fun b=>k (.sc (.bool (!b))) s.m (s.nx+1)
   |none=>False) else Bg (Ou P (Ic K.gl s.e) (Ao s.m) s.nx o) fun v=>k v s.m (s.nx+1)
 |op=>bif Aif op then Gb (Ou P (Ic K.gl s.e) (Ao s.m) s.nx o) fun v d=>k v (Ac s.m d) (s.nx+1) else Bg (Ou P (Ic K.gl s.e) (Ao s.m) s.nx o) fun v=>k v s.m (s.nx+1)
def opQ (s:St) (o:Oper) (k:AV→Prop):Prop:=
 match o.op with
 |.call {callee:=.value g,args,..}=>I0 (Ic K.gl s.e g) (opts (Ic K.gl s.e) args.toList) fun f ar=>Bj P K.gl s.m f ar k
 |_=>Bg (Ou P (Ic K.gl s.e) (Ao s.m) s.nx o) k
def opF (s:St) (o:Oper) (k:AV→Wr→List Nat→Prop):Prop:=
 match o.op with
 |.call {callee:=.value g,args,..}=>I0 (Ic K.gl s.e g) (opts (Ic K.gl s.e) args.toList) fun f ar=>Va P K.gl s.m s.nx f ar k
 |.store t a x=>(match Ic K.gl s.e a,Ic K.gl s.e x with
  |some a,some x=>C4 P (Cf s.m (X9 (Ic K.gl s.e) o)) t a x fun v d=>k v d (X9 (Ic K.gl s.e) o)
  |_,_=>False)
 |.box t x=>(match Ic K.gl s.e x with
  |some x=>Alb P t s.nx x fun v d=>k v d (X9 (Ic K.gl s.e) o)
  |none=>False)
 |_=>Gb (Ou P (Ic K.gl s.e) (Cf s.m (X9 (Ic K.gl s.e) o)) s.nx o) fun v d=>k v d (X9 (Ic K.gl s.e) o)
def WS:List Oper→Nat→St→(St→Prop)→Prop
 |[],_,s,Q=>Q s
 |o::r,i,s,Q=>match Hh ops s.e o with
  |some true=>opW P K s o fun v m nx=>L4 4 (G1 P o) v fun v=>Is (isG ops i) v fun v=>O2 nt s.e o.dst v fun e=>WS r (i+1) ⟨e,m,nx⟩ Q
  |some false=>O2 nt s.e o.dst (.Bn []) fun e=>WS r (i+1) ⟨e,s.m,s.nx⟩ Q
  |none=>False
def WQ:List Oper→Nat→St→(St→Prop)→Prop
 |[],_,s,Q=>Q s
 |o::r,i,s,Q=>match Hh ops s.e o with
  |some true=>opQ P K s o fun v=>L4 4 (G1 P o) v fun v=>Is (isG ops i) v fun v=>O2 nt s.e o.dst v fun e=>WQ r (i+1) ⟨e,s.m,s.nx+1⟩ Q
  |some false=>O2 nt s.e o.dst (.Bn []) fun e=>WQ r (i+1) ⟨e,s.m,s.nx+1⟩ Q
  |none=>False
def WF (ms:List Nat):List Oper→Nat→St→List Rec→(St→Prop)→Prop
 |[],_,s,rs,Q=>Hv (D5 ms rs) (Q s)
 |o::r,i,s,rs,Q=>match Hh ops s.e o with
  |some true=>opF P K s o fun v d ft=>L4 4 (G1 P o) v fun v=>Is (isG ops i) v fun v=>O2 nt s.e o.dst v fun e=>WF ms r (i+1) ⟨e,Ac s.m d,s.nx+1⟩ (rs++[⟨d,ft⟩]) Q
  |some false=>O2 nt s.e o.dst (.Bn []) fun e=>WF ms r (i+1) ⟨e,s.m,s.nx+1⟩ (rs++[⟨[],[]⟩]) Q
  |none=>False
def WR (draw:Bool) (s:St) (Q:St→Prop):Prop:=
 bif draw then Hv (Yv ops (Fh ops.toList [])) (bif ops.toList.any Amw then WF P K nt ops (Fh ops.toList []) ops.toList 0 s [] Q else WQ P K nt ops ops.toList 0 s Q)
 else WS P K nt ops ops.toList 0 s Q
end
def W (P:Program) (K:I5) (nt n0:Nat):Code→St→(A4→St→Prop)→Prop
 |.skip,s,Q=>Q .normal s
 |.region _ ops d,s,Q=>WR P K nt ops d s (Q .normal)
 |.seq a b,s,Q=>W P K nt n0 a s (Cz (fun s'=>W P K nt n0 b s' Q) Q)
 |.cond c a b,s,Q=>match Ic K.gl s.e c with
  |some v=>spl v (W P K nt n0 a s Q) (W P K nt n0 b s Q)
  |none=>False
 |.block id b,s,Q=>W P K nt n0 b s (V4 id Q)
 |.loop b,s,Q=>Bu P K nt n0 (.loop b) s Q
 |.exit id,s,Q=>Q (.exit id) s
 |.ret,s,Q=>Q .ret s
 |.label _,s,Q=>Q .normal s
 |_,_,_=>False
section
variable {P:Program} {K:I5} {nt n0:Nat} {ops:Array Oper}
theorem Qb {r:Ht} {k:AV→Prop} (h:Bg r k):∃v,r=some (v,[])∧k v:=by
 unfold Bg at h
 split at h
 ·exact ⟨_,rfl,h⟩
 ·exact h.elim
theorem dA {r:Ht} {k:AV→Wr→Prop} (h:Gb r k):∃v d,r=some (v,d)∧k v d:=by
 unfold Gb at h
 split at h
 ·exact ⟨_,_,rfl,h⟩
 ·exact h.elim
theorem fZ {v:AV} {x y:Prop} (h:spl v x y):∃b,v=.sc (.bool b)∧(b=true→x)∧(b=false→y):=by
 unfold spl at h
 split at h
 ·rename_i b
  refine ⟨b,rfl,?_,?_⟩
  ·rintro rfl;exact h
  ·rintro rfl;exact h
 ·exact h.elim
theorem L2 {g:Bool} {v:AV} {k:AV→Prop} (h:Is g v k):k v:=by
 unfold Is at h
 cases g with
 |false=>exact h
 |true=>
  obtain ⟨b,rfl,h1,h2⟩:=fZ h
  cases b with
  |true=>exact h1 rfl
  |false=>exact h2 rfl
theorem Ig {nt:Nat} {e:List (Nat×AV)} {dst:Option Nat} {v:AV} {k:List (Nat×AV)→Prop} (h:O2 nt e dst v k):∃e',Qd nt e dst v=some e'∧k e':=by
 unfold O2 at h
 split at h
 ·rename_i e' he;exact ⟨e',he,h⟩
 ·exact h.elim
theorem Vw {b:Bool} {p:Prop} (h:Hv b p):b=true∧p:=by
 unfold Hv at h
 cases b with
 |true=>exact ⟨rfl,h⟩
 |false=>exact h.elim
theorem Ma {g:Option AV} {ar:Option (List AV)} {k:FuncId→List AV→Prop} (h:I0 g ar k):∃f caps l,g=some (.fn f caps)∧ar=some l∧k f (l++caps):=by
 unfold I0 at h
 split at h
 ·exact ⟨_,_,_,rfl,rfl,h⟩
 ·exact h.elim
theorem Mr {b:Bool} {p:Prop} (h:Hv b p):b=true∧p:=by
 unfold Hv at h
 cases b with
 |true=>exact ⟨rfl,h⟩
 |false=>exact h.elim
theorem Ta:∀{cs:List AV} {p:Prop},Zf cs p→cs.all B7=true∧p
 |[],p,h=>⟨rfl,h⟩
 |x::r,p,h=>by
  obtain ⟨h1,h2⟩:=Mr h
  obtain ⟨h3,h4⟩:=Ta h2
  exact ⟨by simp [h1,h3],h4⟩
theorem S8 {t:TypeId} {x:AV} {k:List AV→Prop} (h:Rl P t x k):∃cs n,C3 x=some cs∧Df P t=some n∧cs.length=n∧cs.all B7=true∧k cs:=by
 unfold Rl at h
 split at h
 ·rename_i d hd
  cases hg:It d with
  |true=>
   rw [hg] at h
   simp only [cond_true] at h
   split at h
   ·rename_i cs n hn
    obtain ⟨h1,h2⟩:=Mr h
    obtain ⟨h3,h4⟩:=Ta h2
    exact ⟨cs,n,rfl,hn,Nat.eq_of_beq_eq_true h1,h3,h4⟩
   ·exact h.elim
  |false=>
   rw [hg] at h
   simp only [cond_false] at h
   split at h
   ·rename_i hn
    obtain ⟨h1,h2⟩:=Mr h
    refine ⟨[x],1,?_,hn,rfl,by simp [h1],h2⟩
    cases x<;>simp [B7] at h1<;>rfl
   ·exact h.elim
 ·exact h.elim
theorem Sl {look:Nat→Option Bk} {t:TypeId} {a x:AV} {k:AV→Wr→Prop} (h:C4 P look t a x k):∃v d,Uz P look t a x=some (v,d)∧k v d:=by
 unfold C4 at h
 split at h
 ·rename_i id off
  split at h
  ·rename_i b hb
   obtain ⟨cs,n,h1,h2,h3,h4,h5⟩:=S8 h
   obtain ⟨h6,h7⟩:=Mr h5
   refine ⟨_,_,?_,h7⟩
   have h3':Nat.beq cs.length n=true:=by rw [h3];exact Nat.beq_refl n
   unfold Uz
   simp only [h1,h2,hb,h3',h6,h4,Bool.true_or,Bool.and_self,cond_true]
  ·exact h.elim
 ·exact h.elim
theorem Xt {t:TypeId} {n:Nat} {x:AV} {k:AV→Wr→Prop} (h:Alb P t n x k):∃cs,C3 x=some cs∧k (.ptr n 0) [(n,some ⟨cs,t⟩)]:=by
 obtain ⟨cs,m,h1,h2,h3,h4,h5⟩:=S8 h
 exact ⟨cs,h1,h5⟩
theorem Yf {c:Cx} {x:AV} {k:Bool→Prop} (h:iK x k) {v:Value} (r:A9 c x v):∃a n cap,v=.slice a n cap∧k a.isNone:=by
 unfold iK at h
 split at h
 ·cases r;exact ⟨none,0,0,rfl,h⟩
 ·split at h
  ·cases r with
   |Dy a cap ex he hm hn=>exact ⟨a,0,cap,rfl,h _⟩
   |Dh hb hr hc hn he hm=>exact ⟨_,_,_,rfl,h _⟩
  ·cases r with
   |Dh hb hr hc hn he hm=>exact ⟨_,_,_,rfl,h⟩
 ·cases r;exact ⟨_,_,_,rfl,h⟩
 ·exact h.elim
theorem Xg {y:Operand} (h:Rb y=true):y=.const (.slice none 0 0):=by
 unfold Rb at h
 split at h
 ·rfl
 ·cases h
theorem gF {t:TypeId} (h:Xb P t=true):∃e,P.underlying t=some (.slice e):=by
 unfold Xb at h
 split at h
 ·rename_i e he;exact ⟨e,he⟩
 ·cases h
theorem Aa0 {R:St→Prop} {B:Nat} {c0:Cx} (hn:∀id,c0.al id→id<n0):∀(rest pre:List Oper) {s:St} {c:Cx} {a:Act},ops.toList=pre++rest→WS P K nt ops rest pre.length s R→SR K.gl B nt c s a→Step c0 c→
  wpOps P ops (Wt K nt B c0 (fun x s=>x=.normal∧R s)) (List.range' pre.length rest.length) a c.w
 |[],pre,s,c,a,hops,h,sr,st=>⟨.normal,s,c,rfl,⟨rfl,h⟩,sr,rfl,st⟩
 |o::r,pre,s,c,a,hops,h,sr,st=>by
  have hget:ops[pre.length]?=some o:=by rw [← Array.getElem?_toList,hops];simp
  have hops':ops.toList=(pre++[o])++r:=by rw [hops];simp
  simp only [List.length_cons,List.range'_succ]
  unfold wpOps
  simp only [hget]
  unfold WS at h
  split at h
  ·rename_i hw
   rw [Ko (fun t _ _ _ _=>sr.e t) hw]
   simp only [if_true]
   left
   have fin:∀(c1:Cx) (v:AV) (v':Value) (m':Mem) (nx':Nat),(L4 4 (G1 P o) v fun v=>Is (isG ops pre.length) v fun v=>O2 nt s.e o.dst v fun e=>WS P K nt ops r (pre.length+1) ⟨e,m',nx'⟩ R)→A9 c1 v v'→Step c c1→Good B c1→(∀id,c1.M id=Ao m' id)→(∀id,c1.al id→id<nx')→wpOps P ops (Wt K nt B c0 (fun x s=>x=.normal∧R s)) (List.range' (pre.length+1) r.length) (a.put o.dst v') c1.w:=by
    intro c1 v v' m' nx' hk k1 k2 k3 k4 k5
    obtain ⟨e',hput,hrest⟩:=Ig (L2 (J5 4 _ _ _ hk))
    have sr1:SR K.gl B nt c1 ⟨e',m',nx'⟩ (a.put o.dst v'):=⟨k3,Q2 hput sr.sz (fun t=>(sr.e t).step k2) k1,k4,k5,Mn.trans sr.sz,put_defers.trans sr.df,sr.gl.step k2⟩
    have:=Aa0 hn r (pre++[o]) hops' (by simpa using hrest) sr1 (st.trans k2)
    simpa using this
   have plain:∀(v:AV) (d:Wr),Ou P (Ic K.gl s.e) (Ao s.m) s.nx o=some (v,d)→(L4 4 (G1 P o) v fun v=>Is (isG ops pre.length) v fun v=>O2 nt s.e o.dst v fun e=>WS P K nt ops r (pre.length+1) ⟨e,Ac s.m d,s.nx+1⟩ R)→o.wp P a c.w (wpOps P ops (Wt K nt B c0 (fun x s=>x=.normal∧R s)) (List.range' (pre.length+1) r.length)) (Wt K nt B c0 (fun x s=>x=.normal∧R s)):=by
    intro v d ha hk
    refine Ek.Ou ha B c a _ _ sr.g sr.gl (fun h=>Nat.lt_irrefl _ (sr.al _ h)) (fun id b h=>by rw [sr.m];exact h) (fun x _ y hy=>Gy sr.gl (fun t _=>sr.e t) hy) ?_
    intro c1 v' k1 k2 k3 k4 k5 k6
    exact fin c1 v v' _ _ hk k1 k2 k3 (fun id=>by rw [k4,Mf];exact Rp d sr.m id) (fun id h=>by
     rcases k5 id h with h|rfl
     ·exact Nat.lt_succ_of_lt (sr.al id h)
     ·exact Nat.lt_succ_self _)
   unfold opW at h
   split at h
   ·rename_i gg args ats ho
    obtain ⟨f,caps,l,h1,h2,h3⟩:=Ma h
    have hcw:Ep P K.gl s.m s.nx f (l++caps) (fun v m=>L4 4 (G1 P o) v fun v=>Is (isG ops pre.length) v fun v=>O2 nt s.e o.dst v fun e=>WS P K nt ops r (pre.length+1) ⟨e,m,s.nx+64⟩ R)∨∃v,nJ P (Ao s.m) f (l++caps) v∧L4 4 (G1 P o) v fun v=>Is (isG ops pre.length) v fun v=>O2 nt s.e o.dst v fun e=>WS P K nt ops r (pre.length+1) ⟨e,s.m,s.nx+64⟩ R:=by
     cases hpm:K.pm f with
     |false=>rw [hpm] at h3;exact .inl h3
     |true=>
      rw [hpm] at h3
      obtain ⟨v,hpo,hk⟩:=h3
      rcases hpo with ⟨hp,hc⟩|hod
      ·exact .inl ⟨hp,fun B c vals g hgl hM ha hr=>(hc B c vals g hgl (fun id b hb=>by rw [hM];exact hb) hr).mono fun e w' ⟨v',c',h1,h2,h3,h4,h5,h6,h7⟩=>
        ⟨v,s.m,hk,v',c',h1,h2,h3,h4,h5,fun id=>by rw [h6,hM],fun id h=>by have:=ha id ((h7 id).1 h);omega⟩⟩
      ·exact .inr ⟨v,hod,hk⟩
    rcases hcw with ⟨hp,hc⟩|⟨v,hod,hk⟩
    ·have hg:=Gy (c:=c) (a:=a) sr.gl (fun t _=>sr.e t) h1
     generalize hgv:a.eval gg=u at hg
     cases hg with
     |fn f hcaps=>
      have hargs:=J8 (c:=c) (ev:=a.eval) (fun x _ y hy=>Gy sr.gl (fun t _=>sr.e t) hy) h2
      refine Z8 ho hgv hp (hc B c _ sr.g sr.gl sr.m sr.al (hargs.append hcaps)) ?_
      rintro e2 w' ⟨v,m',hk,v',c',rfl,rfl,k1,k2,k3,k4,k5⟩
      exact ⟨v',rfl,fin c' v v' m' _ hk k1 k2 k3 k4 k5⟩
    ·refine Ek.over ho h1 h2 hod B c a _ _ sr.g sr.gl (fun h=>Nat.lt_irrefl _ (sr.al _ h)) (fun id b h=>by rw [sr.m];exact h) (fun x _ y hy=>Gy sr.gl (fun t _=>sr.e t) hy) ?_
     intro c1 v' k1 k2 k3 k4 k5 k6
     exact fin c1 v v' s.m (s.nx+64) hk k1 k2 k3 (fun id=>by rw [k4];exact sr.m id) (fun id h=>by
      rcases k5 id h with h|rfl
      ·have:=sr.al id h;omega
      ·omega)
   ·rename_i t x y ho
    split at h
    ·rename_i a1 x1 h1 h2
     obtain ⟨v,d,hs,hk⟩:=Sl h
     exact plain v d (by simp only [Ou,ho,h1,h2,hs]) hk
    ·exact h.elim
   ·rename_i t x ho
    split at h
    ·rename_i x1 h1
     obtain ⟨cs,hs,hk⟩:=Xt h
     exact plain _ _ (by simp only [Ou,ho,h1,Option.bind_some,hs]) hk
    ·exact h.elim
   ·rename_i t x y yt ho
    cases hq:(Xb P t && Rb y) with
    |false=>
     rw [hq] at h
     obtain ⟨v,ha,hk⟩:=Qb h
     exact plain v [] ha hk
    |true=>
     rw [hq] at h
     simp only [Bool.and_eq_true] at hq
     obtain ⟨e0,hu⟩:=gF hq.1
     have hy:=Xg hq.2
     subst hy
     simp only [cond_true] at h
     split at h
     ·rename_i x1 h1
      have hx:=Gy (c:=c) (a:=a) sr.gl (fun t _=>sr.e t) h1
      obtain ⟨a1,n1,cap1,hv,hk⟩:=Yf h hx
      have hrun:(execOp a.eval o).run P c.w=.ok (.value (.bool a1.isNone)) c.w:=by
       have e1:a.eval (.const (.slice none 0 0))=.slice none 0 0:=rfl
       have e2:=Hx (P:=P) hu (a:=a1) (b:=none) (k:=n1) (q:=cap1) (k':=0) (q':=0) (.inr rfl) c.w
       simp only [Option.isNone_none,Bool.and_true] at e2
       simp [execOp,ho,hv,e1,eqGuard,binOp,e2]
      unfold Oper.wp
      rw [hrun]
      exact fin (c.tick s.nx) _ _ _ _ hk (.sc _ rfl) (Ha c _) (M7 sr.g _) sr.m (fun id h=>by
       rcases h with h|rfl
       ·exact Nat.lt_succ_of_lt (sr.al id h)
       ·exact Nat.lt_succ_self _)
     ·exact h.elim
   ·rename_i t x y yt ho
    cases hq:(Xb P t && Rb y) with
    |false=>
     rw [hq] at h
     obtain ⟨v,ha,hk⟩:=Qb h
     exact plain v [] ha hk
    |true=>
     rw [hq] at h
     simp only [Bool.and_eq_true] at hq
     obtain ⟨e0,hu⟩:=gF hq.1
     have hy:=Xg hq.2
     subst hy
     simp only [cond_true] at h
     split at h
     ·rename_i x1 h1
      have hx:=Gy (c:=c) (a:=a) sr.gl (fun t _=>sr.e t) h1
      obtain ⟨a1,n1,cap1,hv,hk⟩:=Yf h hx
      have hrun:(execOp a.eval o).run P c.w=.ok (.value (.bool (!a1.isNone))) c.w:=by
       have e1:a.eval (.const (.slice none 0 0))=.slice none 0 0:=rfl
       have e2:=Hx (P:=P) hu (a:=a1) (b:=none) (k:=n1) (q:=cap1) (k':=0) (q':=0) (.inr rfl) c.w
       simp only [Option.isNone_none,Bool.and_true] at e2
       simp [execOp,ho,hv,e1,eqGuard,binOp,e2]
      unfold Oper.wp
      rw [hrun]
      exact fin (c.tick s.nx) _ _ _ _ hk (.sc _ rfl) (Ha c _) (M7 sr.g _) sr.m (fun id h=>by
       rcases h with h|rfl
       ·exact Nat.lt_succ_of_lt (sr.al id h)
       ·exact Nat.lt_succ_self _)
     ·exact h.elim
   ·cases hwr:Aif o.op with
    |true=>
     rw [hwr] at h
     obtain ⟨v,d,ha,hk⟩:=dA h
     exact plain v d ha hk
    |false=>
     rw [hwr] at h
     obtain ⟨v,ha,hk⟩:=Qb h
     exact plain v [] ha hk
  ·rename_i hw
   rw [Ko (fun t _ _ _ _=>sr.e t) hw]
   simp only [Bool.false_eq_true,if_false]
   obtain ⟨e',hput,hrest⟩:=Ig h
   have sr1:SR K.gl B nt c ⟨e',s.m,s.nx⟩ (a.put o.dst undef):=⟨sr.g,Q2 hput sr.sz sr.e (.Bn .nil),sr.m,sr.al,Mn.trans sr.sz,put_defers.trans sr.df,sr.gl⟩
   have:=Aa0 hn r (pre++[o]) hops' (by simpa using hrest) sr1 st
   simpa using this
  ·exact h.elim
def Trace (P:Program) (K:I5) (nt:Nat) (ops:Array Oper) (l:List Oper) (s s':St) (rs rs':List Rec):Prop:=
 ∃(S:Nat→St) (v:Nat→AV) (rc:Nat→Rec) (l':List Rec),S 0=s∧S l.length=s'∧rs'=rs++l'∧l'.length=l.length∧(∀i,i<l.length→l'[i]?=some (rc i))∧∀i o,l[i]?=some o→Stp P K nt ops o (S i) (S (i+1)) (v i) (rc i)
theorem Trace.nil {s:St} {rs:List Rec}:Trace P K nt ops [] s s rs rs:=⟨fun _=>s,fun _=> .El,fun _=>⟨[],[]⟩,[],rfl,rfl,by simp,rfl,fun i hi=>by simp at hi,fun i o h=>by simp at h⟩
theorem Trace.cons {o:Oper} {r:List Oper} {s s1 s':St} {rs rs':List Rec} {v0:AV} {r0:Rec} (hst:Stp P K nt ops o s s1 v0 r0) (h:Trace P K nt ops r s1 s' (rs++[r0]) rs'):Trace P K nt ops (o::r) s s' rs rs':=by
 obtain ⟨S,v,rc,l',h1,h2,h3,h4,h5,h6⟩:=h
 refine ⟨fun i=>match i with|0=>s|i+1=>S i,fun i=>match i with|0=>v0|i+1=>v i,fun i=>match i with|0=>r0|i+1=>rc i,r0::l',rfl,by simpa using h2,by rw [h3];simp,by simp [h4],fun i hi=> ?_,fun i o' ho=> ?_⟩
 ·cases i with
  |zero=>rfl
  |succ i=>simpa using h5 i (by simpa using hi)
 ·cases i with
  |zero=>
   simp only [List.getElem?_cons_zero,Option.some.injEq] at ho
   subst ho
   show Stp P K nt ops o s (S 0) v0 r0
   rw [h1];exact hst
  |succ i=>exact h6 i o' (by simpa using ho)
theorem dW {m:Mem} {id:Nat} {b:Bk} (h:Ao m id=some b):id∈m.map (·.1):=by
 induction m with
 |nil=>simp [Ao] at h
 |cons p r ih=>
  obtain ⟨j,v⟩:=p
  unfold Ao at h
  cases hj:Nat.beq j id with
  |true=>simp [beq_true hj]
  |false=>rw [hj] at h;simp [ih h]
theorem zV (m:Mem):Cf m (m.map (·.1))=Ao m:=by
 funext id
 unfold Cf
 cases h:(m.map (·.1)).contains id with
 |true=>rfl
 |false=>
  simp only [cond_false]
  cases hm:Ao m id with
  |none=>rfl
  |some b=>have:=dW hm;simp at h;simp at this;exact absurd this (by simpa using h)
theorem Vf {R:St→Prop}:∀(l:List Oper) (i:Nat) {s:St} (rs:List Rec),WQ P K nt ops l i s R→∃s' rs',R s'∧Trace P K nt ops l s s' rs rs'∧∀q∈rs',q∈rs∨q.d=[]
 |[],i,s,rs,h=>⟨s,rs,h,.nil,fun q hq=> .inl hq⟩
 |o::r,i,s,rs,h=>by
  unfold WQ at h
  split at h
  ·rename_i hw
   have fin:∀v:AV,Ek P K.gl s.e (Ao s.m) s.nx o v []→(L4 4 (G1 P o) v fun v=>Is (isG ops i) v fun v=>O2 nt s.e o.dst v fun e=>WQ P K nt ops r (i+1) ⟨e,s.m,s.nx+1⟩ R)→∃s' rs',R s'∧Trace P K nt ops (o::r) s s' rs rs'∧∀q∈rs',q∈rs∨q.d=[]:=by
    intro v ho hk
    obtain ⟨e',hput,hrest⟩:=Ig (L2 (J5 4 _ _ _ hk))
    obtain ⟨s',rs',h1,h2,h3⟩:=Vf r (i+1) (rs++[⟨[],s.m.map (·.1)⟩]) hrest
    refine ⟨s',rs',h1,.cons ⟨.inl ⟨hw,by rw [zV];exact ho⟩,hput,fun _=>rfl,rfl⟩ h2,fun q hq=> ?_⟩
    rcases h3 q hq with h|h
    ·rcases List.mem_append.1 h with h|h
     ·exact .inl h
     ·simp at h;exact .inr (by rw [h])
    ·exact .inr h
   unfold opQ at h
   split at h
   ·rename_i gg args ats ho
    obtain ⟨f,caps,l,h1,h2,v,hpc,hk⟩:=Ma h
    rcases hpc with ⟨hp,hc⟩|hpo
    ·exact fin v (Ek.pure ho h1 h2 hp fun B c vals g hgl hn hl hr=>(hc B c vals g hgl hl hr).mono fun _ _ h=>h.toD) hk
    ·exact fin v (Ek.over ho h1 h2 hpo) hk
   ·obtain ⟨v,ha,hk⟩:=Qb h
    exact fin v (Ek.Ou ha) hk
  ·rename_i hw
   obtain ⟨e',hput,hrest⟩:=Ig h
   obtain ⟨s',rs',h1,h2,h3⟩:=Vf r (i+1) (rs++[⟨[],[]⟩]) hrest
   refine ⟨s',rs',h1,.cons (s1:=⟨e',s.m,s.nx+1⟩) (r0:=⟨[],[]⟩) ⟨.inr ⟨hw,rfl,rfl⟩,hput,fun _=>rfl,rfl⟩ h2,fun q hq=> ?_⟩
   rcases h3 q hq with h|h
   ·rcases List.mem_append.1 h with h|h
    ·exact .inl h
    ·simp at h;exact .inr (by rw [h])
   ·exact .inr h
  ·exact h.elim
theorem Vx {ms:List Nat} {R:St→Prop}:∀(l:List Oper) (i:Nat) {s:St} (rs:List Rec),WF P K nt ops ms l i s rs R→∃s' rs',R s'∧Trace P K nt ops l s s' rs rs'∧D5 ms rs'=true
 |[],i,s,rs,h=>by
  obtain ⟨h1,h2⟩:=Vw h
  exact ⟨s,rs,h2,.nil,h1⟩
 |o::r,i,s,rs,h=>by
  unfold WF at h
  split at h
  ·rename_i hw
   have fin:∀(v:AV) (d:Wr) (ft:List Nat),Ek P K.gl s.e (Cf s.m ft) s.nx o v d→(L4 4 (G1 P o) v fun v=>Is (isG ops i) v fun v=>O2 nt s.e o.dst v fun e=>WF P K nt ops ms r (i+1) ⟨e,Ac s.m d,s.nx+1⟩ (rs++[⟨d,ft⟩]) R)→∃s' rs',R s'∧Trace P K nt ops (o::r) s s' rs rs'∧D5 ms rs'=true:=by
    intro v d ft ho hk
    obtain ⟨e',hput,hrest⟩:=Ig (L2 (J5 4 _ _ _ hk))
    obtain ⟨s',rs',h1,h2,h3⟩:=Vx r (i+1) _ hrest
    exact ⟨s',rs',h1,.cons ⟨.inl ⟨hw,ho⟩,hput,Mf _ _,rfl⟩ h2,h3⟩
   unfold opF at h
   split at h
   ·rename_i gg args ats ho
    obtain ⟨f,caps,l,h1,h2,v,d,ft,hpc,hk⟩:=Ma h
    rcases hpc with ⟨hp,hc⟩|⟨hpo,rfl⟩
    ·exact fin v d ft (Ek.pure ho h1 h2 hp hc) hk
    ·exact fin v [] ft (Ek.over ho h1 h2 hpo) hk
   ·rename_i t x y ho
    split at h
    ·rename_i a1 x1 h1 h2
     obtain ⟨v,d,hs,hk⟩:=Sl h
     exact fin v d _ (Ek.Ou (by simp only [Ou,ho,h1,h2,hs])) hk
    ·exact h.elim
   ·rename_i t x ho
    split at h
    ·rename_i x1 h1
     obtain ⟨cs,hs,hk⟩:=Xt h
     exact fin _ _ _ (Ek.Ou (by simp only [Ou,ho,h1,Option.bind_some,hs])) hk
    ·exact h.elim
   ·obtain ⟨v,d,ha,hk⟩:=dA h
    exact fin v d _ (Ek.Ou ha) hk
  ·rename_i hw
   obtain ⟨e',hput,hrest⟩:=Ig h
   obtain ⟨s',rs',h1,h2,h3⟩:=Vx r (i+1) _ hrest
   exact ⟨s',rs',h1,.cons (s1:=⟨e',s.m,s.nx+1⟩) (r0:=⟨[],[]⟩) ⟨.inr ⟨hw,rfl,rfl⟩,hput,fun _=>rfl,rfl⟩ h2,h3⟩
  ·exact h.elim
theorem Yk {ms:List Nat} {rs:List Rec} (h:∀q∈rs,q.d=[]):D5 ms rs=true:=by
 unfold D5
 refine List.all_eq_true.2 fun p hp=> ?_
 have:p.1∈rs:=by
  obtain ⟨q,i⟩:=p
  exact List.mem_of_getElem? (List.mem_zipIdx_iff_getElem?.1 hp)
 simp [h p.1 this]
theorem Al8 (hm:P.follows .mixedOrders=true) {d:Bool} {id:Nat} {s:St} {R:St→Prop} (h:WR P K nt ops d s R):Bu P K nt n0 (.region id ops d) s (fun x s=>x=.normal∧R s):=by
 intro B c0 cx a sr st hn
 unfold WR at h
 cases d with
 |false=>
  simp only [cond_false] at h
  refine wp_region ?_
  have:=Aa0 (R:=R) hn ops.toList [] (by simp) h sr st
  simpa [List.range_eq_range'] using this
 |true=>
  simp only [cond_true] at h
  obtain ⟨h1,h2⟩:=Vw h
  have ⟨s',rs,hR,⟨S,v,rc,l',a1,a2,a3,a4,a5,a6⟩,hconf⟩:∃s' rs',R s'∧Trace P K nt ops ops.toList s s' [] rs'∧D5 (Fh ops.toList []) rs'=true:=by
   cases hw:ops.toList.any Amw with
   |true=>
    rw [hw] at h2
    exact Vx ops.toList 0 [] h2
   |false=>
    rw [hw] at h2
    obtain ⟨s',rs',b1,b2,b3⟩:=Vf ops.toList 0 [] h2
    exact ⟨s',rs',b1,b2,Yk fun q hq=>(b3 q hq).elim (fun h=>by simp at h) (fun h=>h)⟩
  have D:=lI h1 a1 a2 a3 a4 a5 a6 hconf
  exact eO hm D sr fun c' a' sr' st'=>⟨.normal,s',c',rfl,⟨rfl,hR⟩,sr',rfl,st.trans st'⟩
theorem xK {x:A4} {s:St} {R:St→Prop} {Q:A4→St→Prop} (h:x=.normal∧R s) (hR:∀s,R s→Q .normal s):Q x s:=by obtain ⟨rfl,h⟩:=h;exact hR s h
theorem aY (hm:P.follows .mixedOrders=true):∀(c:Code) (s:St) (Q:A4→St→Prop),W P K nt n0 c s Q→Bu P K nt n0 c s Q
 |.skip,s,Q,h=> .skip h
 |.region id ops d,s,Q,h=>(Al8 hm h).mono fun x s h=>xK h fun s h=>h
 |.seq a b,s,Q,h=> .seq ((aY hm a s _ h).mono fun x s' h=>by
   cases x with
   |normal=>exact aY hm b s' Q h
   |exit i=>exact h
   |ret=>exact h)
 |.cond c a b,s,Q,h=>by
  unfold W at h
  split at h
  ·rename_i v hv
   obtain ⟨b',rfl,h1,h2⟩:=fZ h
   exact .cond hv (fun e=>aY hm a s Q (h1 e)) (fun e=>aY hm b s Q (h2 e))
  ·exact h.elim
 |.block id b,s,Q,h=> .block (aY hm b s _ h)
 |.loop b,s,Q,h=>h
 |.exit i,s,Q,h=> .exit h
 |.ret,s,Q,h=> .ret h
 |.label l,s,Q,h=> .label h
 |.rangeFunc ..,s,Q,h=>by simp [W] at h
 |.scope ..,s,Q,h=>by simp [W] at h
 |.goto ..,s,Q,h=>by simp [W] at h
 |.refuse ..,s,Q,h=>by simp [W] at h
end
end Go.Proofs.YtmechmjjcgdpdaaGreatDoor
set_option linter.unusedVariables false
set_option linter.unusedSimpArgs false
namespace Go.Proofs.YtmechmjjcgdpdaaGreatDoor
open Go.RowKit
def Hg:Code→Nat
 |.seq a b=>Hg a+Hg b
 |.cond _ a b=>Hg a+Hg b
 |.block _ b=>Hg b
 |.loop _=>1
 |_=>0
def C0:Code→Nat→Code
 |.seq a b,i=>bif Nat.blt i (Hg a) then C0 a i else C0 b (i-Hg a)
 |.cond _ a b,i=>bif Nat.blt i (Hg a) then C0 a i else C0 b (i-Hg a)
 |.block _ b,i=>C0 b i
 |.loop b,_=>b
 |_,_=> .skip
def Cy (P:Program) (K:I5) (nt n0:Nat):Code→Nat→(A4→St→Prop)→A4→St→Prop
 |.seq a b,i,Q=>bif Nat.blt i (Hg a) then Cy P K nt n0 a i (Cz (fun s'=>W P K nt n0 b s' Q) Q) else Cy P K nt n0 b (i-Hg a) Q
 |.cond _ a b,i,Q=>bif Nat.blt i (Hg a) then Cy P K nt n0 a i Q else Cy P K nt n0 b (i-Hg a) Q
 |.block id b,i,Q=>Cy P K nt n0 b i (V4 id Q)
 |.loop _,_,Q=>Q
 |_,_,_=>fun _ _=>False
def Qy (vals:List AV):Operand→Option AV
 |.tmp i=>vals[i]?
 |.const v=>Gn v
 |_=>none
def Cv (P:Program) (op:Op) (ty:TypeId) (vals:List AV) (look:Nat→Option Bk) (n:Nat):Ht:=Ou P (Qy vals) look n ⟨none,op,ty, "",#[],none⟩
def Ia (r:Ht) (m:Mem) (k:AV→Mem→Prop):Prop:=Gb r fun v d=>k v (Ac m d)
section
variable (look:Nat→Option Bk)
def Ff:AV→Ht
 |.ptr id off=>match look id with|some b=>(b.cells[off]?).map (·,[])|none=>none
 |.B6 cs off=>(cs[off]?).map (·,[])
 |_=>none
def fW (n:Nat) (cs:List AV) (off:Nat):Option AV:=bif Nat.ble (off+n) cs.length then some (.agg ((cs.drop off).take n)) else none
def F2 (n:Nat):AV→Ht
 |.ptr id off=>match look id with|some b=>(fW n b.cells off).map (·,[])|none=>none
 |.B6 cs off=>(fW n cs off).map (·,[])
 |_=>none
def stO (sz:Nat) (a x:AV):Ht:=
 match a,C3 x,some sz with
 |.ptr id off,some cs,some sz=>
  match look id with
  |some b=>bif Nat.beq cs.length sz && Nat.ble (off+cs.length) b.cells.length && cs.all B7 then some (.El,[(id,some ⟨C9 b.cells off cs,b.ty⟩)]) else none
  |none=>none
 |_,_,_=>none
def Iz (o:Nat):AV→Ht
 |.ptr id off=>some (.ptr id (off+o),[])
 |.B6 cs off=>some (.B6 cs (off+o),[])
 |_=>none
def Cw (sz:Nat) (x i:AV):Ht:=
 match i with
 |.sc (.int _ z)=>match x with
  |.sl id off esz n cap ex=>bif decide (0≤z) && decide (z<(n:Int)) then some (.ptr id (off+z.toNat*sz),[]) else none
  |.Dh n cs ex=>bif decide (0≤z) && decide (z<(n:Int)) then some (.B6 (elemAt sz cs z.toNat) 0,[]) else none
  |_=>none
 |_=>none
def Wf (len sz:Nat) (x i:AV):Ht:=
 match i with
 |.sc (.int _ z)=>match x with
  |.ptr id off=>bif decide (0≤z) && decide (z<(len:Int)) then some (.ptr id (off+z.toNat*sz),[]) else none
  |.B6 cs off=>bif decide (0≤z) && decide (z<(len:Int)) then some (.B6 cs (off+z.toNat*sz),[]) else none
  |_=>none
 |_=>none
def fvS (o:Nat):AV→Ht
 |.agg cs=>(cs[o]?).map (·,[])
 |_=>none
def fvA (o n:Nat):AV→Ht
 |.agg cs=>(fW n cs o).map (·,[])
 |_=>none
def alc (zs:List AV) (t n:Nat):Ht:=some (.ptr n 0,[(n,some ⟨zs,t⟩)])
def bx (t:Nat) (x:AV) (n:Nat):Ht:=match C3 x with
 |some cs=>some (.ptr n 0,[(n,some ⟨cs,t⟩)])
 |none=>none
def b9 (zs:List AV) (pl:List (Nat×Nat)) (parts:List (Nat×AV)):Ht:=(Lg (fun i=>pl[i]?) zs parts).map (fun cs=>(.agg cs,[]))
def app (e sz by_:Nat) (zs:List AV) (n:Nat) (s x:AV):Ht:=
 match cellsOf look sz x with
 |some (m,xs)=>
  bif Nat.beq m 0 then
   match s with
   |.Bp|.Dh ..|.sl ..=>some (s,[])
   |_=>none
  else
  match cellsOf look sz s with
  |some (k,old)=>
   bif (Nat.ble ((k+m)*by_) 140737488355328||kU s (k+m)) && Nat.ble (k+m) 4611686018427387904 && Nat.beq zs.length sz && Nat.ble 1 sz && xs.all B7 && Nat.beq xs.length (m*sz) && Nat.beq old.length (k*sz) then
    match s with
    |.Bp=>some (.sl n 0 sz (k+m) (k+m) false,[(n,some ⟨old++xs,e⟩)])
    |.Dh _ _ true=>some (.sl n 0 sz (k+m) (k+m) false,[(n,some ⟨old++xs,e⟩)])
    |.sl id off esz _ cap ex=>
     bif Nat.ble (k+m) cap then
      match look id with
      |some b=>bif Nat.ble (off+(k+m)*sz) b.cells.length then some (.sl id off sz (k+m) cap ex,[(id,some ⟨C9 b.cells (off+k*sz) xs,b.ty⟩)]) else none
      |none=>none
     else bif ex then some (.sl n 0 sz (k+m) (k+m) false,[(n,some ⟨old++xs,e⟩)])
     else bif Nat.beq off 0 && (match look id with|some b=>Nat.beq b.ty e|none=>false) then some (.sl n 0 sz (k+m) (k+m) false,[(n,some ⟨old++xs,e⟩),(id,none)])
     else none
    |_=>none
   else none
  |none=>none
 |none=>none
def Cn:AV→Ht
 |.Bp=>some (.sc (.int .i64 0),[])
 |.Dh n _ _=>some (.sc (.int .i64 n),[])
 |.sl _ _ _ n _ _=>some (.sc (.int .i64 n),[])
 |_=>none
def kT (n e sz len:Nat) (zs:List AV) (parts:List (Nat×AV)):Ht:=
 bif Nat.ble (len*sz) 16777216 && Nat.beq zs.length sz && Nat.ble 1 sz then
  match Lg (fun i=>some (i*sz,sz)) (rep zs len) parts with
  |some cs=>some (.sl n 0 sz len len true,[(n,some ⟨cs,e⟩)])
  |none=>none
 else none
def mks (n e sz by_:Nat) (zs:List AV) (l c:AV):Ht:=
 match l,c with
 |.sc (.int .i64 x),.sc (.int .i64 y)=>
  bif decide (0≤x) && decide (x≤y) && decide (y*(by_:Int)≤140737488355328) && decide (y≤4611686018427387904) && Nat.beq zs.length sz && Nat.ble 1 sz then
   some (.sl n 0 sz x.toNat y.toNat true,[(n,some ⟨rep zs y.toNat,e⟩)])
  else none
 |_,_=>none
def Pu (sz:Nat) (x:AV) (lo hi mx:Option AV):Ht:=
 match x with
 |.Bp=>match K3 0 lo,K3 0 hi,K3 0 mx with
  |some 0,some 0,some 0=>bif mx.isSome && hi.isNone then none else some (.Bp,[])
  |_,_,_=>none
 |.Dh n cs ex=>match K3 0 lo,K3 n hi,K3 n mx with
  |some l,some h,some m=>bif Nat.ble l h && Nat.ble h m && Nat.ble m n && Nat.beq cs.length (n*sz) && !(mx.isSome && hi.isNone) then
    some (.Dh (h-l) ((cs.drop (l*sz)).take ((h-l)*sz)) (mx.isSome && Nat.beq h m),[]) else none
  |_,_,_=>none
 |.sl id off esz n cap ex=>match K3 0 lo,K3 n hi,K3 cap mx with
  |some l,some h,some m=>bif Nat.ble l h && Nat.ble h m && Nat.ble m cap && Nat.beq esz sz && !(mx.isSome && hi.isNone) then
    bif Nat.beq l m then some (.Dh 0 [] (ex||mx.isSome),[]) else some (.sl id (off+l*sz) sz (h-l) (m-l) (ex||mx.isSome),[])
   else none
  |_,_,_=>none
 |_=>none
def ext (i:Nat):AV→Ht
 |.Bn vs=>(vs[i]?).map (·,[])
 |_=>none
end
def Arr (v:AV) (k:AV→Prop):Prop:=E1 1 v fun l=>match l with
 |[a0]=>k a0
 |_=>False
def Da (v:AV) (k:AV→AV→Prop):Prop:=E1 2 v fun l=>match l with
 |[a0,a1]=>k a0 a1
 |_=>False
def qB (v:AV) (k:AV→AV→AV→Prop):Prop:=E1 3 v fun l=>match l with
 |[a0,a1,a2]=>k a0 a1 a2
 |_=>False
def Alq (v:AV) (k:AV→AV→AV→AV→Prop):Prop:=E1 4 v fun l=>match l with
 |[a0,a1,a2,a3]=>k a0 a1 a2 a3
 |_=>False
def Arh (v:AV) (k:AV→AV→AV→AV→AV→Prop):Prop:=E1 5 v fun l=>match l with
 |[a0,a1,a2,a3,a4]=>k a0 a1 a2 a3 a4
 |_=>False
def Th (v:AV) (k:AV→AV→AV→AV→AV→AV→Prop):Prop:=E1 6 v fun l=>match l with
 |[a0,a1,a2,a3,a4,a5]=>k a0 a1 a2 a3 a4 a5
 |_=>False
def Ary (v:AV) (k:AV→AV→AV→AV→AV→AV→AV→Prop):Prop:=E1 7 v fun l=>match l with
 |[a0,a1,a2,a3,a4,a5,a6]=>k a0 a1 a2 a3 a4 a5 a6
 |_=>False
def Aqr (v:AV) (k:AV→AV→AV→AV→AV→AV→AV→AV→Prop):Prop:=E1 8 v fun l=>match l with
 |[a0,a1,a2,a3,a4,a5,a6,a7]=>k a0 a1 a2 a3 a4 a5 a6 a7
 |_=>False
def Aqy (v:AV) (k:AV→AV→AV→AV→AV→AV→AV→AV→AV→Prop):Prop:=E1 9 v fun l=>match l with
 |[a0,a1,a2,a3,a4,a5,a6,a7,a8]=>k a0 a1 a2 a3 a4 a5 a6 a7 a8
 |_=>False
def Aql (v:AV) (k:AV→AV→AV→AV→AV→AV→AV→AV→AV→AV→Prop):Prop:=E1 10 v fun l=>match l with
 |[a0,a1,a2,a3,a4,a5,a6,a7,a8,a9]=>k a0 a1 a2 a3 a4 a5 a6 a7 a8 a9
 |_=>False
def Aqh (v:AV) (k:AV→AV→AV→AV→AV→AV→AV→AV→AV→AV→AV→Prop):Prop:=E1 11 v fun l=>match l with
 |[a0,a1,a2,a3,a4,a5,a6,a7,a8,a9,a10]=>k a0 a1 a2 a3 a4 a5 a6 a7 a8 a9 a10
 |_=>False
def Aqb (v:AV) (k:AV→AV→AV→AV→AV→AV→AV→AV→AV→AV→AV→AV→Prop):Prop:=E1 12 v fun l=>match l with
 |[a0,a1,a2,a3,a4,a5,a6,a7,a8,a9,a10,a11]=>k a0 a1 a2 a3 a4 a5 a6 a7 a8 a9 a10 a11
 |_=>False
def Ap6 (v:AV) (k:AV→AV→AV→AV→AV→AV→AV→AV→AV→AV→AV→AV→AV→Prop):Prop:=E1 13 v fun l=>match l with
 |[a0,a1,a2,a3,a4,a5,a6,a7,a8,a9,a10,a11,a12]=>k a0 a1 a2 a3 a4 a5 a6 a7 a8 a9 a10 a11 a12
 |_=>False
def Aqi (v:AV) (k:AV→AV→AV→AV→AV→AV→AV→AV→AV→AV→AV→AV→AV→AV→Prop):Prop:=E1 14 v fun l=>match l with
 |[a0,a1,a2,a3,a4,a5,a6,a7,a8,a9,a10,a11,a12,a13]=>k a0 a1 a2 a3 a4 a5 a6 a7 a8 a9 a10 a11 a12 a13
 |_=>False
def Aqn (v:AV) (k:AV→AV→AV→AV→AV→AV→AV→AV→AV→AV→AV→AV→AV→AV→AV→Prop):Prop:=E1 15 v fun l=>match l with
 |[a0,a1,a2,a3,a4,a5,a6,a7,a8,a9,a10,a11,a12,a13,a14]=>k a0 a1 a2 a3 a4 a5 a6 a7 a8 a9 a10 a11 a12 a13 a14
 |_=>False
def Ap8 (v:AV) (k:AV→AV→AV→AV→AV→AV→AV→AV→AV→AV→AV→AV→AV→AV→AV→AV→Prop):Prop:=E1 16 v fun l=>match l with
 |[a0,a1,a2,a3,a4,a5,a6,a7,a8,a9,a10,a11,a12,a13,a14,a15]=>k a0 a1 a2 a3 a4 a5 a6 a7 a8 a9 a10 a11 a12 a13 a14 a15
 |_=>False
def Aqg (v:AV) (k:AV→AV→AV→AV→AV→AV→AV→AV→AV→AV→AV→AV→AV→AV→AV→AV→AV→Prop):Prop:=E1 17 v fun l=>match l with
 |[a0,a1,a2,a3,a4,a5,a6,a7,a8,a9,a10,a11,a12,a13,a14,a15,a16]=>k a0 a1 a2 a3 a4 a5 a6 a7 a8 a9 a10 a11 a12 a13 a14 a15 a16
 |_=>False
def Ap7 (v:AV) (k:AV→AV→AV→AV→AV→AV→AV→AV→AV→AV→AV→AV→AV→AV→AV→AV→AV→AV→Prop):Prop:=E1 18 v fun l=>match l with
 |[a0,a1,a2,a3,a4,a5,a6,a7,a8,a9,a10,a11,a12,a13,a14,a15,a16,a17]=>k a0 a1 a2 a3 a4 a5 a6 a7 a8 a9 a10 a11 a12 a13 a14 a15 a16 a17
 |_=>False
def Aqj (v:AV) (k:AV→AV→AV→AV→AV→AV→AV→AV→AV→AV→AV→AV→AV→AV→AV→AV→AV→AV→AV→Prop):Prop:=E1 19 v fun l=>match l with
 |[a0,a1,a2,a3,a4,a5,a6,a7,a8,a9,a10,a11,a12,a13,a14,a15,a16,a17,a18]=>k a0 a1 a2 a3 a4 a5 a6 a7 a8 a9 a10 a11 a12 a13 a14 a15 a16 a17 a18
 |_=>False
def Aqo (v:AV) (k:AV→AV→AV→AV→AV→AV→AV→AV→AV→AV→AV→AV→AV→AV→AV→AV→AV→AV→AV→AV→Prop):Prop:=E1 20 v fun l=>match l with
 |[a0,a1,a2,a3,a4,a5,a6,a7,a8,a9,a10,a11,a12,a13,a14,a15,a16,a17,a18,a19]=>k a0 a1 a2 a3 a4 a5 a6 a7 a8 a9 a10 a11 a12 a13 a14 a15 a16 a17 a18 a19
 |_=>False
def Aqa (v:AV) (k:AV→AV→AV→AV→AV→AV→AV→AV→AV→AV→AV→AV→AV→AV→AV→AV→AV→AV→AV→AV→AV→Prop):Prop:=E1 21 v fun l=>match l with
 |[a0,a1,a2,a3,a4,a5,a6,a7,a8,a9,a10,a11,a12,a13,a14,a15,a16,a17,a18,a19,a20]=>k a0 a1 a2 a3 a4 a5 a6 a7 a8 a9 a10 a11 a12 a13 a14 a15 a16 a17 a18 a19 a20
 |_=>False
def Aqe (v:AV) (k:AV→AV→AV→AV→AV→AV→AV→AV→AV→AV→AV→AV→AV→AV→AV→AV→AV→AV→AV→AV→AV→AV→Prop):Prop:=E1 22 v fun l=>match l with
 |[a0,a1,a2,a3,a4,a5,a6,a7,a8,a9,a10,a11,a12,a13,a14,a15,a16,a17,a18,a19,a20,a21]=>k a0 a1 a2 a3 a4 a5 a6 a7 a8 a9 a10 a11 a12 a13 a14 a15 a16 a17 a18 a19 a20 a21
 |_=>False
def Ap9 (v:AV) (k:AV→AV→AV→AV→AV→AV→AV→AV→AV→AV→AV→AV→AV→AV→AV→AV→AV→AV→AV→AV→AV→AV→AV→Prop):Prop:=E1 23 v fun l=>match l with
 |[a0,a1,a2,a3,a4,a5,a6,a7,a8,a9,a10,a11,a12,a13,a14,a15,a16,a17,a18,a19,a20,a21,a22]=>k a0 a1 a2 a3 a4 a5 a6 a7 a8 a9 a10 a11 a12 a13 a14 a15 a16 a17 a18 a19 a20 a21 a22
 |_=>False
def Aqq (v:AV) (k:AV→AV→AV→AV→AV→AV→AV→AV→AV→AV→AV→AV→AV→AV→AV→AV→AV→AV→AV→AV→AV→AV→AV→AV→Prop):Prop:=E1 24 v fun l=>match l with
 |[a0,a1,a2,a3,a4,a5,a6,a7,a8,a9,a10,a11,a12,a13,a14,a15,a16,a17,a18,a19,a20,a21,a22,a23]=>k a0 a1 a2 a3 a4 a5 a6 a7 a8 a9 a10 a11 a12 a13 a14 a15 a16 a17 a18 a19 a20 a21 a22 a23
 |_=>False
def T7 (v:AV) (k:Prop):Prop:=N3 0 v fun l=>match l with
 |[]=>k
 |_=>False
@[simp] theorem fX (k:Prop):T7 (.Bn []) k=k:=rfl
def H5 (v:AV) (k:AV→AV→Prop):Prop:=N3 2 v fun l=>match l with
 |[a0,a1]=>k a0 a1
 |_=>False
def Amv (v:AV) (k:AV→AV→AV→Prop):Prop:=N3 3 v fun l=>match l with
 |[a0,a1,a2]=>k a0 a1 a2
 |_=>False
def Ar1 (v:AV) (k:AV→AV→AV→AV→Prop):Prop:=N3 4 v fun l=>match l with
 |[a0,a1,a2,a3]=>k a0 a1 a2 a3
 |_=>False
def Ar2 (v:AV) (k:AV→AV→AV→AV→AV→Prop):Prop:=N3 5 v fun l=>match l with
 |[a0,a1,a2,a3,a4]=>k a0 a1 a2 a3 a4
 |_=>False
def Aru (v:AV) (k:AV→AV→AV→AV→AV→AV→Prop):Prop:=N3 6 v fun l=>match l with
 |[a0,a1,a2,a3,a4,a5]=>k a0 a1 a2 a3 a4 a5
 |_=>False
def Ard (v:AV) (k:AV→AV→AV→AV→AV→AV→AV→Prop):Prop:=N3 7 v fun l=>match l with
 |[a0,a1,a2,a3,a4,a5,a6]=>k a0 a1 a2 a3 a4 a5 a6
 |_=>False
def Ar8 (v:AV) (k:AV→AV→AV→AV→AV→AV→AV→AV→Prop):Prop:=N3 8 v fun l=>match l with
 |[a0,a1,a2,a3,a4,a5,a6,a7]=>k a0 a1 a2 a3 a4 a5 a6 a7
 |_=>False
@[simp] theorem U3 (p:Prop):Hv true p=p:=rfl
def Ajf:List (Option AV)→Option (List AV)
 |[]=>some []
 |r::rs=>match r,Ajf rs with
  |some v,some l=>some (v::l)
  |_,_=>none
def Aib:Option (List AV)→Option AV
 |some [v]=>some v
 |some l=>some (.Bn l)
 |none=>none
def A8 (R:AV→Mem→Prop) (m:Mem) (os:List (Option AV)):Prop:=match Aib (Ajf os) with
 |some v=>R v m
 |none=>False
def Cr (P:Program) (fn:Func) (R:AV→Mem→Prop):A4→St→Prop
 |.normal,s=>(match D6 P fn s with|some v=>R v s.m|none=>False)
 |.ret,s=>(match D6 P fn s with|some v=>R v s.m|none=>False)
 |_,_=>False
end Go.Proofs.YtmechmjjcgdpdaaGreatDoor
set_option linter.unusedVariables false
set_option linter.unusedSimpArgs false
namespace Go.Proofs.YtmechmjjcgdpdaaGreatDoor
open Go.RowKit
mutual
def norm:AV→AV
 |.Bp=> .Dh 0 [] false
 |.Dh n cs _=> .Dh n (Fk cs) false
 |.agg cs=> .agg (Fk cs)
 |.Bn cs=> .Bn (Fk cs)
 |.B6 cs off=> .B6 (Fk cs) off
 |.fn f cs=> .fn f (Fk cs)
 |x=>x
def Fk:List AV→List AV
 |[]=>[]
 |x::xs=>norm x::Fk xs
end
mutual
theorem Qv {c:Cx} {x:AV} {v:Value}:A9 c x v→A9 c (norm x) v
 |.El v=> .El v
 |.sc v h=> .sc v h
 |.agg h=> .agg (Gm h)
 |.Bn h=> .Bn (Gm h)
 |.Jk=> .Jk
 |.ptr h off=> .ptr h off
 |.B6 hb h hc off=> .B6 hb (Gm h) hc off
 |.Bp=> .Dy none 0 false (fun h=>by cases h) (Nat.zero_le _) (fun _=>rfl)
 |.Dy a cap ex he hm hn=> .Dy a cap false (fun h=>by cases h) hm hn
 |.Dh hb h hc hn he hm=> .Dh hb (Gm h) hc hn (fun h=>by cases h) hm
 |.sl h hb hs hn hc he hm=> .sl h hb hs hn hc he hm
 |.fn f h=> .fn f (Gm h)
 |.N5=> .N5
 |.Pm u v=> .Pm u v
theorem Gm {c:Cx} {xs:List AV} {vs:List Value}:Be c xs vs→Be c (Fk xs) vs
 |.nil=> .nil
 |.cons h t=> .cons (Qv h) (Gm t)
end
section
variable {P:Program} {K:I5} {gl:Nat→Option (List AV)}
def Own (P:Program) (gl:Nat→Option (List AV)) (f:FuncId) (args:List AV) (R:AV→Mem→Prop):Prop:=
 Dp P f∧∀(B:Nat) (c:Cx) (vals:List Value),Good B c→B2 gl c→(∀id,c.M id=none)→(∀id,¬c.al id)→Be c args vals→Calls P f vals.toArray c.w (fun e w'=>∃u m nx,R u m∧Fm B c u m nx e w')
theorem zW (hm:P.follows .mixedOrders=true) {f:FuncId} {fn:Func} {code:Code} (hf:P.funcs[f]?=some fn) (hb:fn.body=some code) (hn:(fn.name== "runtime.NumGoroutine")=false) {args:List AV} (hl:Nat.ble args.length fn.ntmps=true) {R:AV→Mem→Prop}
  (h:W P K fn.ntmps 0 code ⟨Ed args 0,[],0⟩ (Cr P fn R)):Own P K.gl f args R:=by
 refine ⟨⟨fn,code,hf,hb,hn⟩,fun B c vals g hgl hM ha hr=> ?_⟩
 have tri:Bu P K fn.ntmps 0 code ⟨Ed args 0,[],0⟩ (fun x s=>(x=.normal∨x=.ret)∧∃v,D6 P fn s=some v∧R v s.m):=(aY hm code _ _ h).mono fun x s hq=>by
  cases x with
  |normal=>
   simp only [Cr] at hq
   split at hq
   ·rename_i v hv;exact ⟨.inl rfl,v,hv,hq⟩
   ·exact hq.elim
  |ret=>
   simp only [Cr] at hq
   split at hq
   ·rename_i v hv;exact ⟨.inr rfl,v,hv,hq⟩
   ·exact hq.elim
  |exit i=>exact hq.elim
 exact (Ld (R:=fun v m' _=>R v m') hf hb (Nat.le_of_ble_eq_true hl) tri g hgl (fun id=>by rw [hM];rfl) (fun id h=>absurd h (ha id)) hr).mono fun e w' ⟨v,m',nx',h1,h2⟩=>⟨v,m',nx',h1,h2⟩
theorem Bc (hm:P.follows .mixedOrders=true) {f:FuncId} {fn:Func} {code:Code} (hf:P.funcs[f]?=some fn) (hb:fn.body=some code) (hn:(fn.name== "runtime.NumGoroutine")=false) {args:List AV} (hl:Nat.ble args.length fn.ntmps=true) {R:AV→Mem→Prop} {X:Prop}
  (hX:W P K fn.ntmps 0 code ⟨Ed args 0,[],0⟩ (Cr P fn R)=X) (h:X):Own P K.gl f args R:=zW hm hf hb hn hl (hX.mpr h)
theorem Own.mono {f:FuncId} {args:List AV} {R R':AV→Mem→Prop} (h:Own P gl f args R) (hr:∀v m,R v m→R' v m):Own P gl f args R':=
 ⟨h.1,fun B c vals g hgl hM ha hr'=>(h.2 B c vals g hgl hM ha hr').mono fun e w' ⟨u,m,nx,h1,h2⟩=>⟨u,m,nx,hr u m h1,h2⟩⟩
def B5 (v:AV) (u:AV) (m:Mem):Prop:=(freeze (Ao m) 6 u).map norm=some v
theorem Jd.any {f:FuncId} {args:List AV} {v:AV} (h:Jd P gl (fun _=>none) f args v) (look:Nat→Option Bk):Jd P gl look f args v:=
 ⟨h.1,fun B c vals g hgl _ hr=>h.2 B c vals g hgl (fun _ _ h=>by cases h) hr⟩
theorem A1 {f:FuncId} {args:List AV} {v:AV} (hc:Ap args=true) (hv:clean v=true) (h:Own P gl f args (B5 v)):Cj P gl f args v:=by
 refine ⟨hc,hv,h.1,fun B c vals g hgl _ hr=> ?_⟩
 have hBs:=g.hB
 have hno:∀b,(c.own b∨c.no b)→b<c.w.heap.size:=by
  rintro b (⟨id,Bd,h1,h2⟩|h)
  ·rw [← h2];exact g.lt h1
  ·have:=g.Lj b h;omega
 have hst:∀b,c.Bs b→(c.alone fun b=>c.own b∨c.no b).Bs b:=fun b ⟨h1,h2,h3⟩=>⟨h1,Db,fun h=>h.elim h2 h3⟩
 refine (h.2 c.w.heap.size (c.alone fun b=>c.own b∨c.no b) vals (Fl hno) (B2.B1 (c:=c) rfl hst hgl) (fun _=>rfl) (fun _ h=>h) (Be.B1 (c:=c) (c0:=c.alone fun b=>c.own b∨c.no b) rfl hst hr hc)).mono ?_
 rintro e w' ⟨u,m,nx,hans,u',c0,rfl,rfl,k1,k2,k3,k4,k5⟩
 obtain ⟨v',hv',rfl⟩:=Option.map_eq_some_iff.1 hans
 refine ⟨u',{c with w:=c0.w},rfl,rfl,Qv ?_,Hc g k2,I3 g k2,fun _=>rfl,fun _=>Iff.rfl⟩
 refine Oe (c':={c with w:=c0.w}) k3 rfl ?_ ?_ (fun id b h=>by rw [k4];exact h) 6 k1 hv'
 ·rintro b ⟨h1,h2,h3⟩
  refine ⟨h1,fun ho=>h3 ((k2.no b).2 (.inl ho)),fun hn=>h3 ((k2.no b).2 (.inr hn))⟩
 ·rintro b ⟨id,Bd,h1,h2⟩
  have hlow:=(k3.low id Bd h1).1
  refine ⟨by rw [← h2];exact k3.lt h1,?_,fun hn=> ?_⟩
  ·rintro ⟨id',blk',h1',h2'⟩
   have:=g.lt h1'
   have e2:c.f id'=b:=h2'
   omega
  ·have:b<B:=g.Lj b hn
   omega
theorem Cj.at {f:FuncId} {args:List AV} {v:AV} (h:Cj P gl f args v) (look:Nat→Option Bk):Jd P gl look f args v:=h.2.2.any look
theorem jD {m:Mem} {nx:Nat} {f:FuncId} {args:List AV} {v:AV} {k:AV→Mem→Prop} (h:Jd P gl (Ao m) f args v) (hk:k v m):Ep P gl m nx f args k:=
 ⟨h.1,fun B c vals g hgl hM ha hr=>(h.2 B c vals g hgl (fun id b hb=>by rw [hM];exact hb) hr).mono fun e w' ⟨v',c',h1,h2,h3,h4,h5,h6,h7⟩=>
  ⟨v,m,hk,v',c',h1,h2,h3,h4,h5,fun id=>by rw [h6,hM],fun id h=>by have:=ha id ((h7 id).1 h);omega⟩⟩
theorem Gh {m:Mem} {nx:Nat} {f:FuncId} {args:List AV} {v:AV} {k:AV→Mem→Prop} (h:Cj P gl f args v) (hk:k v m):Ep P gl m nx f args k:=jD (h.at _) hk
theorem Av {m:Mem} {f:FuncId} {args:List AV} {v:AV} {k:AV→Prop} (h:Cj P gl f args v) (hk:k v):Bj P gl m f args k:=⟨v,.inl (h.at _),hk⟩
theorem E3 {m:Mem} {f:FuncId} {args:List AV} {v:AV} {k:AV→Prop} (h:Jd P gl (Ao m) f args v) (hk:k v):Bj P gl m f args k:=⟨v,.inl h,hk⟩
theorem Ix {m:Mem} {n:Nat} {f:FuncId} {args:List AV} {v:AV} {k:AV→Wr→List Nat→Prop} (h:Cj P gl f args v) (hk:k v [] []):Va P gl m n f args k:=⟨v,[],[],.inl (h.at _).toD,hk⟩
def Apq (off esz k cap:Nat) (ex:Bool) (b:Bk) (u:AV) (m:Mem):Prop:=∃id,u=.sl id off esz k cap ex∧Ao m id=some b
theorem Z5 {m:Mem} {nx:Nat} {f:FuncId} {args:List AV} {v:AV} {d:Wr} {k:AV→Mem→Prop} (h:Gw P gl (Ao m) nx f args v d) (hk:k v (Ac m d)):Ep P gl m nx f args k:=
 ⟨h.1,fun B c vals g hgl hM ha hr=>(h.2 B c vals g hgl (fun h=>Nat.lt_irrefl _ (ha _ h)) (fun id b hb=>by rw [hM];exact hb) hr).mono fun e w' ⟨v',c',h1,h2,h3,h4,h5,h6,h7,h8⟩=>
  ⟨v,Ac m d,hk,v',c',h1,h2,h3,h4,h5,fun id=>by rw [h6,Mf];exact Rp d hM id,fun id h=>by
   rcases h7 id h with h|rfl
   ·have:=ha id h;omega
   ·omega⟩⟩
def Bb (K:I5) (nt n0:Nat) (s s0:St):Prop:=∀(B:Nat) (c0 cx:Cx) (a:Act),SR K.gl B nt cx s a→Step c0 cx→(∀id,c0.al id→id<n0)→∃cx',SR K.gl B nt cx' s0 a∧Step c0 cx'∧cx'.w=cx.w
variable {nt n0:Nat}
theorem Bu.Eh {s s0:St} {c:Code} {Q:A4→St→Prop} (hw:Bb K nt n0 s s0) (h:Bu P K nt n0 c s0 Q):Bu P K nt n0 c s Q:=fun B c0 cx a sr st hn=>by
 obtain ⟨cx',sr',st',e⟩:=hw B c0 cx a sr st hn
 rw [← e];exact h B c0 cx' a sr' st' hn
theorem Vh.Eh {s s0:St} {c:Code} {n:Nat} {Q:A4→St→Prop} (hw:Bb K nt n0 s s0) (h:Vh P K nt n0 c n s0 Q):Vh P K nt n0 c n s Q:=fun B c0 cx a sr st hn=>by
 obtain ⟨cx',sr',st',e⟩:=hw B c0 cx a sr st hn
 rw [← e];exact h B c0 cx' a sr' st' hn
theorem Bu.loops (hm:P.follows .mixedOrders=true) {body:Code} {Q:A4→St→Prop} {σ:Type} (I:σ→Prop) (st:σ→St) (μ:σ→Nat)
  (step:∀x,I x→W P K nt n0 body (st x) (Cz (fun s'=>∃y,I y∧μ y<μ x∧Bb K nt n0 s' (st y)) Q)):∀x,I x→Bu P K nt n0 (.loop body) (st x) Q:=by
 have key:∀n x,μ x<n→I x→Vh P K nt n0 body n (st x) Q:=by
  intro n
  induction n with
  |zero=>intro x h;omega
  |succ n ih=>
   intro x hx hI
   refine Vh.succ ((aY hm body _ _ (step x hI)).mono fun ex s' h=> ?_)
   cases ex with
   |normal=>
    obtain ⟨y,hy,hlt,hw⟩:=h
    exact (ih y (by omega) hy).Eh hw
   |exit i=>exact h
   |ret=>exact h
 exact fun x hI=> .loop (key (μ x+1) x (by omega) hI)
mutual
def Jx (π:Nat→Nat):AV→AV
 |.agg cs=> .agg (I2 π cs)
 |.Bn cs=> .Bn (I2 π cs)
 |.ptr id off=> .ptr (π id) off
 |.B6 cs off=> .B6 (I2 π cs) off
 |.Dh n cs ex=> .Dh n (I2 π cs) ex
 |.sl id off esz n cap ex=> .sl (π id) off esz n cap ex
 |.fn f cs=> .fn f (I2 π cs)
 |x=>x
def I2 (π:Nat→Nat):List AV→List AV
 |[]=>[]
 |x::xs=>Jx π x::I2 π xs
end
mutual
theorem R3 (π:Nat→Nat):∀{x:AV},clean x=true→Jx π x=x
 |.El,_=>rfl
 |.sc _,_=>rfl
 |.agg cs,h=>by simp only [Jx];rw [Fs π (by simpa [clean] using h)]
 |.Bn cs,h=>by simp only [Jx];rw [Fs π (by simpa [clean] using h)]
 |.Jk,_=>rfl
 |.ptr ..,h=>by simp [clean] at h
 |.B6 cs off,h=>by simp only [Jx];rw [Fs π (by simpa [clean] using h)]
 |.Bp,_=>rfl
 |.Dh n cs ex,h=>by simp only [Jx];rw [Fs π (by simpa [clean] using h)]
 |.sl ..,h=>by simp [clean] at h
 |.fn f cs,h=>by simp only [Jx];rw [Fs π (by simpa [clean] using h)]
 |.ifc _,_=>rfl
theorem Fs (π:Nat→Nat):∀{xs:List AV},Ap xs=true→I2 π xs=xs
 |[],_=>rfl
 |x::xs,h=>by
  simp only [Ap,Bool.and_eq_true] at h
  simp only [I2];rw [R3 π h.1,Fs π h.2]
end
def Cx.Jx (c:Cx) (π:Nat→Nat) (m0:Mem):Cx:={w:=c.w,f:=fun id=>c.f (π id),al:=fun id=>c.al (π id),M:=Ao m0,no:=c.no}
section
variable {c:Cx} {π:Nat→Nat} {m0:Mem}
theorem K2 (ho:∀b,(c.Jx π m0).own b→c.own b) {b:Nat} (h:c.Bs b):(c.Jx π m0).Bs b:=⟨h.1,fun h'=>h.2.1 (ho b h'),h.2.2⟩
mutual
theorem aF (ho:∀b,(c.Jx π m0).own b→c.own b):∀{x:AV} {v:Value},A9 c (Go.Proofs.YtmechmjjcgdpdaaGreatDoor.Jx π x) v→A9 (c.Jx π m0) x v
 |.El,v,_=> .El v
 |.sc u,v,h=>by simp only [Go.Proofs.YtmechmjjcgdpdaaGreatDoor.Jx] at h;cases h with|sc _ hv=>exact .sc _ hv
 |.agg cs,v,h=>by simp only [Go.Proofs.YtmechmjjcgdpdaaGreatDoor.Jx] at h;cases h with|agg hr=>exact .agg (Iw ho hr)
 |.Bn cs,v,h=>by simp only [Go.Proofs.YtmechmjjcgdpdaaGreatDoor.Jx] at h;cases h with|Bn hr=>exact .Bn (Iw ho hr)
 |.Jk,v,h=>by simp only [Go.Proofs.YtmechmjjcgdpdaaGreatDoor.Jx] at h;cases h;exact .Jk
 |.ptr id off,v,h=>by simp only [Go.Proofs.YtmechmjjcgdpdaaGreatDoor.Jx] at h;cases h with|ptr ha=>exact A9.ptr (c:=c.Jx π m0) (id:=id) ha off
 |.B6 cs off,v,h=>by simp only [Go.Proofs.YtmechmjjcgdpdaaGreatDoor.Jx] at h;cases h with|B6 hb hr hc off=>exact A9.B6 (c:=c.Jx π m0) (K2 ho hb) (Iw ho hr) hc off
 |.Bp,v,h=>by simp only [Go.Proofs.YtmechmjjcgdpdaaGreatDoor.Jx] at h;cases h;exact .Bp
 |.Dh n cs ex,v,h=>by
  simp only [Go.Proofs.YtmechmjjcgdpdaaGreatDoor.Jx] at h
  generalize hcs:I2 π cs=cs' at h
  cases h with
  |Dy a cap ex he hm hn=>
   cases cs with
   |nil=>exact .Dy a cap ex he hm hn
   |cons y ys=>simp [I2] at hcs
  |Dh hb hr hc hn he hm=>rw [← hcs] at hr;exact A9.Dh (c:=c.Jx π m0) (K2 ho hb) (Iw ho hr) hc hn he hm
 |.sl id off esz n cap ex,v,h=>by simp only [Go.Proofs.YtmechmjjcgdpdaaGreatDoor.Jx] at h;cases h with|sl ha hb hs hn hc he hm=>exact A9.sl (c:=c.Jx π m0) (id:=id) ha hb hs hn hc he hm
 |.fn f cs,v,h=>by simp only [Go.Proofs.YtmechmjjcgdpdaaGreatDoor.Jx] at h;cases h with|fn f hr=>exact .fn f (Iw ho hr)
 |.ifc p,v,h=>by
  simp only [Go.Proofs.YtmechmjjcgdpdaaGreatDoor.Jx] at h
  cases h with
  |N5=>exact .N5
  |Pm u q=>exact .Pm u q
theorem Iw (ho:∀b,(c.Jx π m0).own b→c.own b):∀{xs:List AV} {vs:List Value},Be c (I2 π xs) vs→Be (c.Jx π m0) xs vs
 |[],vs,h=>by simp only [I2] at h;cases h;exact .nil
 |x::xs,vs,h=>by simp only [I2] at h;cases h with|cons h1 h2=>exact .cons (aF ho h1) (Iw ho h2)
end
end
def Ar0 (e0:List (Nat×AV)) (p:Nat→AV→Bool):Bool:=e0.all fun q=>p q.1 q.2
theorem eM:∀(e:List (Nat×AV)) (t:Nat),E5 e t=.El∨(t,E5 e t)∈e
 |[],t=> .inl rfl
 |(j,v)::r,t=>by
  unfold E5
  cases h:Nat.beq j t with
  |true=>simp only [cond_true];rw [beq_true h];exact .inr (by simp)
  |false=>
   simp only [cond_false]
   rcases eM r t with h|h
   ·exact .inl h
   ·exact .inr (by simp [h])
def okE (e:List (Nat×AV)):List (Nat×AV)→Prop
 |[]=>True
 |(t,v)::r=>(E5 e t=v∧clean v=true)∧okE e r
end
end Go.Proofs.YtmechmjjcgdpdaaGreatDoor
set_option linter.unusedVariables false
set_option linter.unusedSimpArgs false
namespace Go.Proofs.YtmechmjjcgdpdaaGreatDoor
open Go.RowKit
structure En (α:Type) where
 size:Nat
 enc:α→List AV
 len:∀x,(enc x).length=size
 pos:0<size
 cell:∀x,(enc x).all B7=true
 Cs:∀x,Ap (enc x)=true
 Vr:∀x,Fk (enc x)=enc x
def Az {α:Type} (E:En α) (l:List α):List AV:=l.flatMap E.enc
abbrev Ai {α:Type} (E:En α) (l:List α):AV:=.Dh l.length (Az E l) false
abbrev Aa (z:Int):AV:=.sc (.int .i64 z)
abbrev Ae (b:Bool):AV:=.sc (.bool b)
abbrev Bq (s:ByteArray):AV:=.sc (.string s)
section
variable {α:Type} {E:En α}
theorem uW:Az E []=[]:=rfl
theorem Ch (x:α) (l:List α):Az E (x::l)=E.enc x++Az E l:=rfl
theorem Ef (l k:List α):Az E (l++k)=Az E l++Az E k:=by simp [Az]
theorem zL (x:α):Az E [x]=E.enc x:=by simp [Az]
theorem Bt (l:List α):(Az E l).length=l.length*E.size:=by
 induction l with
 |nil=>simp [Az]
 |cons x l ih=>rw [Ch,List.length_append,ih,E.len,List.length_cons,Nat.add_mul,Nat.one_mul,Nat.add_comm]
theorem Il (l:List α) (i:Nat):(Az E l).drop (i*E.size)=Az E (l.drop i):=by
 induction l generalizing i with
 |nil=>simp [Az]
 |cons x l ih=>
  cases i with
  |zero=>simp
  |succ i=>
   rw [Ch,List.drop_append,List.drop_succ_cons,E.len]
   have h1:(E.enc x).drop ((i+1)*E.size)=[]:=List.drop_eq_nil_of_le (by rw [E.len,Nat.add_mul];omega)
   have h2:(i+1)*E.size-E.size=i*E.size:=by rw [Nat.add_mul];omega
   rw [h1,h2,List.nil_append,ih]
theorem Ii (l:List α) (i:Nat):(Az E l).take (i*E.size)=Az E (l.take i):=by
 induction l generalizing i with
 |nil=>simp [Az]
 |cons x l ih=>
  cases i with
  |zero=>simp [Az]
  |succ i=>
   rw [Ch,List.take_append,List.take_succ_cons,E.len,Ch]
   have h1:(E.enc x).take ((i+1)*E.size)=E.enc x:=List.take_of_length_le (by rw [E.len,Nat.add_mul];omega)
   have h2:(i+1)*E.size-E.size=i*E.size:=by rw [Nat.add_mul];omega
   rw [h1,h2,ih]
theorem Sj (l:List α) (i:Nat) (h:i<l.length):elemAt E.size (Az E l) i=E.enc l[i]:=by
 unfold elemAt
 rw [Il,List.drop_eq_getElem_cons h,Ch,List.take_append_of_le_length (by rw [E.len];exact Nat.le_refl _),List.take_of_length_le (by rw [E.len];exact Nat.le_refl _)]
theorem Nz:∀(a b:List AV),Ap (a++b)=(Ap a && Ap b)
 |[],b=>by simp [Ap]
 |x::a,b=>by simp [Ap,Nz a b,Bool.and_assoc]
theorem Oz:∀(a b:List AV),Fk (a++b)=Fk a++Fk b
 |[],b=>by simp [Fk]
 |x::a,b=>by simp [Fk,Oz a b]
theorem Aj (l:List α):Ap (Az E l)=true:=by
 induction l with
 |nil=>rfl
 |cons x l ih=>rw [Ch,Nz,E.Cs,ih];rfl
theorem Fv (l:List α):Fk (Az E l)=Az E l:=by
 induction l with
 |nil=>rfl
 |cons x l ih=>rw [Ch,Oz,E.Vr,ih]
theorem Ew (l:List α):(Az E l).all B7=true:=by
 induction l with
 |nil=>rfl
 |cons x l ih=>rw [Ch,List.all_append,E.cell,ih];rfl
theorem Ol (look:Nat→Option Bk) (k:Nat):∀(cs:List AV),cs.all B7=true→Ap cs=true→I8 (freeze look (k+1)) cs=some cs
 |[],_,_=>rfl
 |x::cs,h1,h2=>by
  simp only [List.all_cons,Bool.and_eq_true] at h1
  simp only [Ap,Bool.and_eq_true] at h2
  have hx:freeze look (k+1) x=some x:=by
   cases x<;>simp [B7] at h1<;>simp [clean] at h2<;>simp [freeze,clean,h2]
  unfold I8
  rw [hx,Ol look k cs h1.2 h2.2]
theorem U8 (look:Nat→Option Bk) (k:Nat):∀(cs:List AV),cs.all B7=true→(∀x∈cs,∀f l,x≠.fn f l)→Ap cs=true→I8 (snap look (k+1)) cs=some cs
 |[],_,_,_=>rfl
 |x::cs,h1,h3,h2=>by
  simp only [List.all_cons,Bool.and_eq_true] at h1
  simp only [Ap,Bool.and_eq_true] at h2
  have hx:snap look (k+1) x=some x:=by
   cases x with
   |fn f l=>exact absurd rfl (h3 _ (by simp) f l)
   |_=>simp [B7] at h1<;>simp [clean] at h2<;>simp [snap,clean,h2]
  unfold I8
  rw [hx,U8 look k cs h1.2 (fun y hy=>h3 y (by simp [hy])) h2.2]
variable {P:Program} {look:Nat→Option Bk} {t yt ty n:Nat}
theorem lY {op:BinOp} {a b v:Value} (h:Na op a b=some v):Cv P (.binOp op t (.tmp 0) (.tmp 1) yt) ty [.sc a,.sc b] look n=some (.sc v,[]):=by simp [Cv,Ou,Abs,Qy,h]
theorem zN {sz:Nat} (hs:E.size=sz) (l:List α) (ex:Bool) (i:Nat) (h:i<l.length):Cw sz (.Dh l.length (Az E l) ex) (.sc (.int .i64 (i:Int)))=some (.B6 (E.enc l[i]) 0,[]):=by
 subst hs
 have h1:decide ((0:Int)≤(i:Int))=true:=by simp
 have h2:decide ((i:Int)<(l.length:Int))=true:=by simpa using h
 simp only [Cw,h1,h2,Bool.true_or,Bool.and_self,cond_true,Int.toNat_natCast,Sj l i h]
theorem Cm {id off:Nat} {b:Bk} {x:AV} (hb:look id=some b) (h:b.cells[off]?=some x):Ff look (.ptr id off)=some (x,[]):=by simp [Ff,hb,h]
theorem wrap64 {z:Int} (h1: -9223372036854775808≤z) (h2:z≤9223372036854775807):IntKind.wrap .i64 z=z:=IntWalk.i64_in z ⟨h1,h2⟩
end
end Go.Proofs.YtmechmjjcgdpdaaGreatDoor
