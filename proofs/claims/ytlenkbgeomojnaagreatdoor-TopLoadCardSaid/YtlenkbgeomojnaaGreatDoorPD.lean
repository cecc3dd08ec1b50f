/- The road from a program to plain programs: Pi18 to Pi22. -/
import Derived.Test.YtlenkbgeomojnaaGreatDoorPC
import Derived.IntWalk
/- The evaluator of functions is sound; calls that leave the memory as it is. -/
set_option linter.unusedVariables false
set_option linter.unusedSimpArgs false
namespace Go.Proofs.YtlenkbgeomojnaaGreatDoor
open Go.RowKit
section
variable {P:Program} {K:Cfg}
theorem evFn_ok (hm:P.follows .mixedOrders=true):∀k,CallOk P K.gl (evFn P K k)
 |0,f,args,m,nx,v,m',nx',h=>by simp [evFn] at h
 |k+1,f,args,m,nx,v,m',nx',h=>by
  have ih:=evFn_ok hm k
  unfold evFn at h
  split at h
  ·rename_i fn hf
   split at h
   ·rename_i code hb
    cases hq:(fn.name== "runtime.NumGoroutine" ||Nat.blt fn.ntmps args.length) with
    |true=>rw [hq] at h;simp at h
    |false=>
     rw [hq] at h
     simp only [cond_false] at h
     simp only [Bool.or_eq_false_iff] at hq
     have hlen:args.length≤fn.ntmps:=by
      rcases Nat.lt_or_ge fn.ntmps args.length with h'|h'
      ·have:Nat.blt fn.ntmps args.length=true:=Nat.ble_eq_true_of_le h'
       rw [this] at hq;exact absurd hq.2 (by simp)
      ·exact h'
     refine ⟨⟨fn,code,hf,hb,hq.1⟩,fun B c vals g gl hM ha hr=> ?_⟩
     have key:∀x s,(x=AExit.normal∨x=AExit.ret)→evCode K (evRegion P K (evFn P K k) fn.ntmps) k code ⟨initEnv args 0,m,nx⟩=some (x,s)→(aResults P fn s).map (·,s.m,s.nx)=some (v,m',nx')→Calls P f vals.toArray c.w (CallPost B c v m' nx'):=by
      intro x s hx hc hres
      obtain ⟨v0,h1,h2⟩:=Option.map_eq_some_iff.1 hres
      simp only [Prod.mk.injEq] at h2
      obtain ⟨rfl,rfl,rfl⟩:=h2
      have tri:Tri P K fn.ntmps nx code ⟨initEnv args 0,m,nx⟩ (fun y t=>(y=.normal∨y=.ret)∧∃v,aResults P fn t=some v∧(v=v0∧t.m=s.m∧t.nx=s.nx)):=
       (evCode_ok hm ih code _ x s hc).mono fun y t ⟨e1,e2⟩=>by subst e1;subst e2;exact ⟨hx,v0,h1,rfl,rfl,rfl⟩
      refine (calls_of_tri (R:=fun v m' nx'=>v=v0∧m'=s.m∧nx'=s.nx) hf hb hlen tri g gl hM ha hr).mono ?_
      rintro e w' ⟨v,m',nx',⟨rfl,rfl,rfl⟩,hp⟩
      exact hp
     split at h
     ·rename_i s hc;exact key .normal s (.inl rfl) hc h
     ·rename_i s hc;exact key .ret s (.inr rfl) hc h
     ·cases h
   ·cases h
  ·cases h
/- a call that leaves the memory of the run alone -/
def PureAt (P:Program) (gl:Nat→Option (List AV)) (look:Nat→Option ABlk) (f:FuncId) (args:List AV) (v:AV):Prop:=
 Plainly P f∧∀(B:Nat) (c:Cx) (vals:List Value),Good B c→GlobOk gl c→(∀id b,look id=some b→c.M id=some b)→Rels c args vals→Calls P f vals.toArray c.w (PurePost B c v)
/- the same, where one block may be left to the caller -/
def PureD (P:Program) (gl:Nat→Option (List AV)) (look:Nat→Option ABlk) (n:Nat) (f:FuncId) (args:List AV) (v:AV) (d:Wr):Prop:=
 Plainly P f∧∀(B:Nat) (c:Cx) (vals:List Value),Good B c→GlobOk gl c→¬c.al n→(∀id b,look id=some b→c.M id=some b)→Rels c args vals→Calls P f vals.toArray c.w (PurePostD B c n v d)
theorem PureAt.toD {gl:Nat→Option (List AV)} {look:Nat→Option ABlk} {n:Nat} {f:FuncId} {args:List AV} {v:AV} (h:PureAt P gl look f args v):PureD P gl look n f args v []:=⟨h.1,fun B c vals g hgl hn hl hr=>(h.2 B c vals g hgl hl hr).mono fun _ _ h=>h.toD⟩
/- of plain values that need no memory: what a function answers -/
def Says (P:Program) (gl:Nat→Option (List AV)) (f:FuncId) (args:List AV) (v:AV):Prop:=cleans args=true∧clean v=true∧PureAt P gl (fun _=>none) f args v
/- a fact: an answer that the evaluator gives -/
def evalsTo (P:Program) (K:Cfg) (k:Nat) (f:FuncId):Option Bool:=
 match evFn P K k f [] [] 0 with
 |some (.sc (.bool b),_,_)=>some b
 |_=>none
end
end Go.Proofs.YtlenkbgeomojnaaGreatDoor
/- Code as a condition on what comes after it: unfolding it runs the code on plain values that need not be known. -/
set_option linter.unusedVariables false
set_option linter.unusedSimpArgs false
namespace Go.Proofs.YtlenkbgeomojnaaGreatDoor
open Go.RowKit
abbrev Mem:=List (Nat×Option ABlk)
def isWr:Op→Bool
 |.alloc _=>true
 |.box _ _=>true
 |.store ..=>true
 |.buildSlice ..=>true
 |.makeSlice ..=>true
 |.call c=>match c.callee with
  |.builtin .append=>true
  |.builtin .copy=>true
  |.builtin .clear=>true
  |_=>false
 |_=>false
/- operations that change the memory; some calls count as such (wcall: a switch of the seat) -/
def wcallOp:Op→Bool
 |.call {callee:=.value (.func f),..}=>wcall f
 |_=>false
def wrOp (o:Oper):Bool:=isWr o.op||wcallOp o.op
def opP (r:Res) (k:AV→Prop):Prop:=match r with
 |some (v,[])=>k v
 |_=>False
def opM (r:Res) (k:AV→Wr→Prop):Prop:=match r with
 |some (v,d)=>k v d
 |none=>False
def spl (v:AV) (x y:Prop):Prop:=match v with
 |.sc (.bool b)=>bif b then x else y
 |_=>False
def isG (ops:Array Oper) (i:Nat):Bool:=ops.toList.any fun o=>match o.guard with
 |some (j,_)=>Nat.beq j i
 |none=>false
def splitG (g:Bool) (v:AV) (k:AV→Prop):Prop:=bif g then spl v (k (.sc (.bool true))) (k (.sc (.bool false))) else k v
def putK (nt:Nat) (e:List (Nat×AV)) (dst:Option Nat) (v:AV) (k:List (Nat×AV)→Prop):Prop:=match putD nt e dst v with
 |some e=>k e
 |none=>False
def callW (P:Program) (gl:Nat→Option (List AV)) (m:Mem) (nx:Nat) (f:FuncId) (args:List AV) (k:AV→Mem→Prop):Prop:=
 Plainly P f∧∀(B:Nat) (c:Cx) (vals:List Value),Good B c→GlobOk gl c→(∀id,c.M id=mget m id)→(∀id,c.al id→id<nx)→Rels c args vals→Calls P f vals.toArray c.w (fun e w'=>∃v m',k v m'∧CallPost B c v m' (nx+64) e w')
def callQ (P:Program) (gl:Nat→Option (List AV)) (m:Mem) (f:FuncId) (args:List AV) (k:AV→Prop):Prop:=∃v,(PureAt P gl (mget m) f args v∨OverD P (mget m) f args v)∧k v
def callF (P:Program) (gl:Nat→Option (List AV)) (m:Mem) (n:Nat) (f:FuncId) (args:List AV) (k:AV→Wr→List Nat→Prop):Prop:=∃v d ft,(PureD P gl (look' m ft) n f args v d∨(OverD P (look' m ft) f args v∧d=[]))∧k v d ft
def fnArgs (g:Option AV) (ar:Option (List AV)) (k:FuncId→List AV→Prop):Prop:=match g,ar with
 |some (.fn f caps),some ar=>k f (ar++caps)
 |_,_=>False
/- what is known of a value by its type -/
inductive Shp where
 |any
 |int (k:IntKind)
 |bool
 |str
 |flt
 |agg (l:List Shp)
 |tup (l:List Shp)
def shapeC:Shp→List Shp
 |.agg l=>l
 |s=>[s]
def shapeOf (P:Program):Nat→TypeId→Shp
 |0,_=> .any
 |f+1,t=>match P.underlying t with
  |some (.int k)=> .int k
  |some .bool=> .bool
  |some .string=> .str
  |some (.float .f64)=> .flt
  |some (.struct fs)=> .agg (fs.toList.flatMap fun fd=>shapeC (shapeOf P f fd.type))
  |some (.array n e)=> .agg ((List.replicate n (shapeC (shapeOf P f e))).flatten)
  |some (.tuple ts)=> .tup (ts.toList.map (shapeOf P f))
  |_=> .any
def shpLim:Shp→Shp
 |.agg l=>bif Nat.ble l.length 24 then .agg l else .any
 |s=>s
def shp (P:Program) (t:TypeId):Shp:=match shapeOf P 8 t with
 |.tup l=> .tup (l.map shpLim)
 |s=>shpLim s
def ex_i8 (v:AV) (k:Int→Prop):Prop:=match v with
 |.sc (.int .i8 z)=>k z
 |_=>False
def ex_i16 (v:AV) (k:Int→Prop):Prop:=match v with
 |.sc (.int .i16 z)=>k z
 |_=>False
def ex_i32 (v:AV) (k:Int→Prop):Prop:=match v with
 |.sc (.int .i32 z)=>k z
 |_=>False
def ex_i64 (v:AV) (k:Int→Prop):Prop:=match v with
 |.sc (.int .i64 z)=>k z
 |_=>False
def ex_u8 (v:AV) (k:Int→Prop):Prop:=match v with
 |.sc (.int .u8 z)=>k z
 |_=>False
def ex_u16 (v:AV) (k:Int→Prop):Prop:=match v with
 |.sc (.int .u16 z)=>k z
 |_=>False
def ex_u32 (v:AV) (k:Int→Prop):Prop:=match v with
 |.sc (.int .u32 z)=>k z
 |_=>False
def ex_u64 (v:AV) (k:Int→Prop):Prop:=match v with
 |.sc (.int .u64 z)=>k z
 |_=>False
def exK:IntKind→AV→(Int→Prop)→Prop
 |.i8,v,q=>ex_i8 v q
 |.i16,v,q=>ex_i16 v q
 |.i32,v,q=>ex_i32 v q
 |.i64,v,q=>ex_i64 v q
 |.u8,v,q=>ex_u8 v q
 |.u16,v,q=>ex_u16 v q
 |.u32,v,q=>ex_u32 v q
 |.u64,v,q=>ex_u64 v q
def exB (v:AV) (k:Bool→Prop):Prop:=match v with
 |.sc (.bool b)=>k b
 |_=>False
def exStr (v:AV) (k:ByteArray→Prop):Prop:=match v with
 |.sc (.string s)=>k s
 |_=>False
def exF (v:AV) (k:Nat→Prop):Prop:=match v with
 |.sc (.float .f64 x)=>k x
 |_=>False
def exL:Nat→List AV→(List AV→Prop)→Prop
 |0=>fun cs k=>match cs with
  |[]=>k []
  |_::_=>False
 |n+1=>fun cs k=>match cs with
  |[]=>False
  |x::xs=>exL n xs fun l=>k (x::l)
def exAgg (n:Nat) (v:AV) (k:List AV→Prop):Prop:=match v with
 |.agg cs=>exL n cs k
 |_=>False
def exTup (n:Nat) (v:AV) (k:List AV→Prop):Prop:=match v with
 |.tup cs=>exL n cs k
 |_=>False
def exEach (f:Shp→AV→(AV→Prop)→Prop):List Shp→List AV→(List AV→Prop)→Prop
 |s::ss,x::xs,k=>f s x fun y=>exEach f ss xs fun ys=>k (y::ys)
 |[],[],k=>k []
 |_,_,_=>False
def expS:Nat→Shp→AV→(AV→Prop)→Prop
 |0,_,v,k=>k v
 |_+1,.any,v,k=>k v
 |_+1,.int ik,v,k=>exK ik v fun z=>k (.sc (.int ik z))
 |_+1,.bool,v,k=>exB v fun b=>k (.sc (.bool b))
 |_+1,.str,v,k=>exStr v fun s=>k (.sc (.string s))
 |_+1,.flt,v,k=>exF v fun x=>k (.sc (.float .f64 x))
 |f+1,.agg l,v,k=>exAgg l.length v fun cs=>exEach (expS f) l cs fun cs=>k (.agg cs)
 |f+1,.tup l,v,k=>exTup l.length v fun cs=>exEach (expS f) l cs fun cs=>k (.tup cs)
def resShape (P:Program) (o:Oper):Shp:=match o.op with
 |.load t _=>shp P t
 |.call _=>shp P o.type
 |.convert _ d _=>shp P d
 |.index ..=>shp P o.type
 |.field ..=>shp P o.type
 |.unOp _ t _=>shp P t
 |.binOp op t _ _ _=>(match op with
  |.eql=> .bool
  |.neq=> .bool
  |.lss=> .bool
  |.leq=> .bool
  |.gtr=> .bool
  |.geq=> .bool
  |_=>shp P t)
 |_=> .any
theorem ex_k_elim {ik:IntKind} {v:AV} {k:AV→Prop} (h:exK ik v fun z=>k (.sc (.int ik z))):k v:=by
 cases ik<;>(simp only [exK,ex_i8,ex_i16,ex_i32,ex_i64,ex_u8,ex_u16,ex_u32,ex_u64] at h;split at h;(exact h);(exact h.elim))
theorem exL_elim:∀{n:Nat} {cs:List AV} {k:List AV→Prop},exL n cs k→k cs
 |0,[],k,h=>h
 |n+1,x::xs,k,h=>exL_elim (n:=n) (cs:=xs) (k:=fun l=>k (x::l)) h
 |0,_::_,k,h=>by simp [exL] at h
 |_+1,[],k,h=>by simp [exL] at h
theorem exEach_elim {f:Shp→AV→(AV→Prop)→Prop} (hf:∀s v k,f s v k→k v):∀{ss:List Shp} {cs:List AV} {k:List AV→Prop},exEach f ss cs k→k cs
 |s::ss,x::xs,k,h=>exEach_elim hf (ss:=ss) (cs:=xs) (k:=fun ys=>k (x::ys)) (hf s x _ h)
 |[],[],k,h=>h
 |[],_::_,k,h=>by simp [exEach] at h
 |_::_,[],k,h=>by simp [exEach] at h
theorem expS_elim:∀(f:Nat) (s:Shp) (v:AV) (k:AV→Prop),expS f s v k→k v
 |0,_,v,k,h=>h
 |_+1,.any,v,k,h=>h
 |_+1,.int ik,v,k,h=>ex_k_elim h
 |_+1,.bool,v,k,h=>by
  simp only [expS,exB] at h
  split at h
  ·exact h
  ·exact h.elim
 |_+1,.str,v,k,h=>by
  simp only [expS,exStr] at h
  split at h
  ·exact h
  ·exact h.elim
 |_+1,.flt,v,k,h=>by
  simp only [expS,exF] at h
  split at h
  ·exact h
  ·exact h.elim
 |f+1,.agg l,v,k,h=>by
  simp only [expS,exAgg] at h
  split at h
  ·exact exEach_elim (expS_elim f) (exL_elim h)
  ·exact h.elim
 |f+1,.tup l,v,k,h=>by
  simp only [expS,exTup] at h
  split at h
  ·exact exEach_elim (expS_elim f) (exL_elim h)
  ·exact h.elim
/- memory, the latest on top -/
def mpushs (m:Mem):Wr→Mem
 |[]=>m
 |p::r=>mpushs (p::m) r
theorem mget_mpushs (d:Wr):∀(m:Mem) (id:Nat),mget (mpushs m d) id=upd (mget m) d id:=by
 induction d with
 |nil=>intro m id;rfl
 |cons p r ih=>
  obtain ⟨i,v⟩:=p
  intro m id
  unfold mpushs upd
  rw [ih]
  congr 1
  funext k
  show (bif Nat.beq i k then v else mget m k)=_
  cases h:Nat.beq i k with
  |true=>simp [beq_true h]
  |false=>have:=beq_false h;simp only [cond_false];rw [if_neg (fun e=>this e.symm)]
def chk (b:Bool) (p:Prop):Prop:=bif b then p else False
def chkAll:List AV→Prop→Prop
 |[],p=>p
 |x::r,p=>chk (isCell x) (chkAll r p)
/- the cells of a value of a type -/
def cellsW (P:Program) (t:TypeId) (x:AV) (k:List AV→Prop):Prop:=match P.underlying t with
 |some d=>bif isAggD d then (match x,tsize P t with
   |.agg cs,some n=>chk (Nat.beq cs.length n) (chkAll cs (k cs))
   |_,_=>False) else (match tsize P t with
   |some 1=>chk (isCell x) (k [x])
   |_=>False)
 |none=>False
def storeW (P:Program) (look:Nat→Option ABlk) (t:TypeId) (a x:AV) (k:AV→Wr→Prop):Prop:=match a with
 |.ptr id off=>(match look id with
  |some b=>cellsW P t x fun cs=>chk (Nat.ble (off+cs.length) b.cells.length) (k .und [(id,some ⟨aput b.cells off cs,b.ty⟩)])
  |none=>False)
 |_=>False
def boxW (P:Program) (t:TypeId) (n:Nat) (x:AV) (k:AV→Wr→Prop):Prop:=cellsW P t x fun cs=>k (.ptr n 0) [(n,some ⟨cs,t⟩)]
section
variable (P:Program) (K:Cfg) (nt:Nat) (ops:Array Oper)
/- a slice compared with nil: an empty one may be nil or not -/
def nilK (x:AV) (k:Bool→Prop):Prop:=match x with
 |.nils=>k true
 |.lst _ cs _=>(match cs with
  |[]=>∀b,k b
  |_::_=>k false)
 |.sl ..=>k false
 |_=>False
def isNilC:Operand→Bool
 |.const (.slice none 0 0)=>true
 |_=>false
def isSlT (P:Program) (t:TypeId):Bool:=match P.underlying t with
 |some (.slice _)=>true
 |_=>false
def opW (s:St) (o:Oper) (k:AV→Mem→Nat→Prop):Prop:=
 match o.op with
 |.call {callee:=.value g,args,..}=>fnArgs (rho K.gl s.e g) (opts (rho K.gl s.e) args.toList) fun f ar=>bif K.pm f then callQ P K.gl s.m f ar (fun v=>k v s.m (s.nx+64)) else callW P K.gl s.m s.nx f ar (fun v m=>k v m (s.nx+64))
 |.store t a x=>(match rho K.gl s.e a,rho K.gl s.e x with
  |some a,some x=>storeW P (mget s.m) t a x fun v d=>k v (mpushs s.m d) (s.nx+1)
  |_,_=>False)
 |.box t x=>(match rho K.gl s.e x with
  |some x=>boxW P t s.nx x fun v d=>k v (mpushs s.m d) (s.nx+1)
  |none=>False)
 |.binOp .eql t x y _=>bif isSlT P t && isNilC y then (match rho K.gl s.e x with
   |some x=>nilK x fun b=>k (.sc (.bool b)) s.m (s.nx+1)
   |none=>False) else opP (aop P (rho K.gl s.e) (mget s.m) s.nx o) fun v=>k v s.m (s.nx+1)
 |.binOp .neq t x y _=>bif isSlT P t && isNilC y then (match rho K.gl s.e x with
   |some x=>nilK x fun b=>k (.sc (.bool (!b))) s.m (s.nx+1)
   |none=>False) else opP (aop P (rho K.gl s.e) (mget s.m) s.nx o) fun v=>k v s.m (s.nx+1)
 |op=>bif isWr op then opM (aop P (rho K.gl s.e) (mget s.m) s.nx o) fun v d=>k v (mpushs s.m d) (s.nx+1) else opP (aop P (rho K.gl s.e) (mget s.m) s.nx o) fun v=>k v s.m (s.nx+1)
def opQ (s:St) (o:Oper) (k:AV→Prop):Prop:=
 match o.op with
 |.call {callee:=.value g,args,..}=>fnArgs (rho K.gl s.e g) (opts (rho K.gl s.e) args.toList) fun f ar=>callQ P K.gl s.m f ar k
 |_=>opP (aop P (rho K.gl s.e) (mget s.m) s.nx o) k
def opF (s:St) (o:Oper) (k:AV→Wr→List Nat→Prop):Prop:=
 match o.op with
 |.call {callee:=.value g,args,..}=>fnArgs (rho K.gl s.e g) (opts (rho K.gl s.e) args.toList) fun f ar=>callF P K.gl s.m s.nx f ar k
 |.store t a x=>(match rho K.gl s.e a,rho K.gl s.e x with
  |some a,some x=>storeW P (look' s.m (footN (rho K.gl s.e) o)) t a x fun v d=>k v d (footN (rho K.gl s.e) o)
  |_,_=>False)
 |.box t x=>(match rho K.gl s.e x with
  |some x=>boxW P t s.nx x fun v d=>k v d (footN (rho K.gl s.e) o)
  |none=>False)
 |_=>opM (aop P (rho K.gl s.e) (look' s.m (footN (rho K.gl s.e) o)) s.nx o) fun v d=>k v d (footN (rho K.gl s.e) o)
def WS:List Oper→Nat→St→(St→Prop)→Prop
 |[],_,s,Q=>Q s
 |o::r,i,s,Q=>match awanted ops s.e o with
  |some true=>opW P K s o fun v m nx=>expS 4 (resShape P o) v fun v=>splitG (isG ops i) v fun v=>putK nt s.e o.dst v fun e=>WS r (i+1) ⟨e,m,nx⟩ Q
  |some false=>putK nt s.e o.dst (.tup []) fun e=>WS r (i+1) ⟨e,s.m,s.nx⟩ Q
  |none=>False
def WQ:List Oper→Nat→St→(St→Prop)→Prop
 |[],_,s,Q=>Q s
 |o::r,i,s,Q=>match awanted ops s.e o with
  |some true=>opQ P K s o fun v=>expS 4 (resShape P o) v fun v=>splitG (isG ops i) v fun v=>putK nt s.e o.dst v fun e=>WQ r (i+1) ⟨e,s.m,s.nx+1⟩ Q
  |some false=>putK nt s.e o.dst (.tup []) fun e=>WQ r (i+1) ⟨e,s.m,s.nx+1⟩ Q
  |none=>False
def WF (ms:List Nat):List Oper→Nat→St→List Rec→(St→Prop)→Prop
 |[],_,s,rs,Q=>chk (confOk ms rs) (Q s)
 |o::r,i,s,rs,Q=>match awanted ops s.e o with
  |some true=>opF P K s o fun v d ft=>expS 4 (resShape P o) v fun v=>splitG (isG ops i) v fun v=>putK nt s.e o.dst v fun e=>WF ms r (i+1) ⟨e,mpushs s.m d,s.nx+1⟩ (rs++[⟨d,ft⟩]) Q
  |some false=>putK nt s.e o.dst (.tup []) fun e=>WF ms r (i+1) ⟨e,s.m,s.nx+1⟩ (rs++[⟨[],[]⟩]) Q
  |none=>False
def WR (draw:Bool) (s:St) (Q:St→Prop):Prop:=
 bif draw then chk (statOk ops (masks ops.toList [])) (bif ops.toList.any wrOp then WF P K nt ops (masks ops.toList []) ops.toList 0 s [] Q else WQ P K nt ops ops.toList 0 s Q)
 else WS P K nt ops ops.toList 0 s Q
end
def W (P:Program) (K:Cfg) (nt n0:Nat):Code→St→(AExit→St→Prop)→Prop
 |.skip,s,Q=>Q .normal s
 |.region _ ops d,s,Q=>WR P K nt ops d s (Q .normal)
 |.seq a b,s,Q=>W P K nt n0 a s (thenQ (fun s'=>W P K nt n0 b s' Q) Q)
 |.cond c a b,s,Q=>match rho K.gl s.e c with
  |some v=>spl v (W P K nt n0 a s Q) (W P K nt n0 b s Q)
  |none=>False
 |.block id b,s,Q=>W P K nt n0 b s (blockQ id Q)
 |.loop b,s,Q=>Tri P K nt n0 (.loop b) s Q
 |.exit id,s,Q=>Q (.exit id) s
 |.ret,s,Q=>Q .ret s
 |.label _,s,Q=>Q .normal s
 |_,_,_=>False
section
variable {P:Program} {K:Cfg} {nt n0:Nat} {ops:Array Oper}
theorem opP_elim {r:Res} {k:AV→Prop} (h:opP r k):∃v,r=some (v,[])∧k v:=by
 unfold opP at h
 split at h
 ·exact ⟨_,rfl,h⟩
 ·exact h.elim
theorem opM_elim {r:Res} {k:AV→Wr→Prop} (h:opM r k):∃v d,r=some (v,d)∧k v d:=by
 unfold opM at h
 split at h
 ·exact ⟨_,_,rfl,h⟩
 ·exact h.elim
theorem spl_elim {v:AV} {x y:Prop} (h:spl v x y):∃b,v=.sc (.bool b)∧(b=true→x)∧(b=false→y):=by
 unfold spl at h
 split at h
 ·rename_i b
  refine ⟨b,rfl,?_,?_⟩
  ·rintro rfl;exact h
  ·rintro rfl;exact h
 ·exact h.elim
theorem splitG_elim {g:Bool} {v:AV} {k:AV→Prop} (h:splitG g v k):k v:=by
 unfold splitG at h
 cases g with
 |false=>exact h
 |true=>
  obtain ⟨b,rfl,h1,h2⟩:=spl_elim h
  cases b with
  |true=>exact h1 rfl
  |false=>exact h2 rfl
theorem putK_elim {nt:Nat} {e:List (Nat×AV)} {dst:Option Nat} {v:AV} {k:List (Nat×AV)→Prop} (h:putK nt e dst v k):∃e',putD nt e dst v=some e'∧k e':=by
 unfold putK at h
 split at h
 ·rename_i e' he;exact ⟨e',he,h⟩
 ·exact h.elim
theorem chk_elim {b:Bool} {p:Prop} (h:chk b p):b=true∧p:=by
 unfold chk at h
 cases b with
 |true=>exact ⟨rfl,h⟩
 |false=>exact h.elim
theorem fnArgs_elim {g:Option AV} {ar:Option (List AV)} {k:FuncId→List AV→Prop} (h:fnArgs g ar k):∃f caps l,g=some (.fn f caps)∧ar=some l∧k f (l++caps):=by
 unfold fnArgs at h
 split at h
 ·exact ⟨_,_,_,rfl,rfl,h⟩
 ·exact h.elim
theorem chk_elim0 {b:Bool} {p:Prop} (h:chk b p):b=true∧p:=by
 unfold chk at h
 cases b with
 |true=>exact ⟨rfl,h⟩
 |false=>exact h.elim
theorem chkAll_elim:∀{cs:List AV} {p:Prop},chkAll cs p→cs.all isCell=true∧p
 |[],p,h=>⟨rfl,h⟩
 |x::r,p,h=>by
  obtain ⟨h1,h2⟩:=chk_elim0 h
  obtain ⟨h3,h4⟩:=chkAll_elim h2
  exact ⟨by simp [h1,h3],h4⟩
theorem cellsW_elim {t:TypeId} {x:AV} {k:List AV→Prop} (h:cellsW P t x k):∃cs n,acells x=some cs∧tsize P t=some n∧cs.length=n∧cs.all isCell=true∧k cs:=by
 unfold cellsW at h
 split at h
 ·rename_i d hd
  cases hg:isAggD d with
  |true=>
   rw [hg] at h
   simp only [cond_true] at h
   split at h
   ·rename_i cs n hn
    obtain ⟨h1,h2⟩:=chk_elim0 h
    obtain ⟨h3,h4⟩:=chkAll_elim h2
    exact ⟨cs,n,rfl,hn,Nat.eq_of_beq_eq_true h1,h3,h4⟩
   ·exact h.elim
  |false=>
   rw [hg] at h
   simp only [cond_false] at h
   split at h
   ·rename_i hn
    obtain ⟨h1,h2⟩:=chk_elim0 h
    refine ⟨[x],1,?_,hn,rfl,by simp [h1],h2⟩
    cases x<;>simp [isCell] at h1<;>rfl
   ·exact h.elim
 ·exact h.elim
theorem storeW_elim {look:Nat→Option ABlk} {t:TypeId} {a x:AV} {k:AV→Wr→Prop} (h:storeW P look t a x k):∃v d,aStore P look t a x=some (v,d)∧k v d:=by
 unfold storeW at h
 split at h
 ·rename_i id off
  split at h
  ·rename_i b hb
   obtain ⟨cs,n,h1,h2,h3,h4,h5⟩:=cellsW_elim h
   obtain ⟨h6,h7⟩:=chk_elim0 h5
   refine ⟨_,_,?_,h7⟩
   have h3':Nat.beq cs.length n=true:=by rw [h3];exact Nat.beq_refl n
   unfold aStore
   simp only [h1,h2,hb,h3',h6,h4,Bool.true_or,Bool.and_self,cond_true]
  ·exact h.elim
 ·exact h.elim
theorem boxW_elim {t:TypeId} {n:Nat} {x:AV} {k:AV→Wr→Prop} (h:boxW P t n x k):∃cs,acells x=some cs∧k (.ptr n 0) [(n,some ⟨cs,t⟩)]:=by
 obtain ⟨cs,m,h1,h2,h3,h4,h5⟩:=cellsW_elim h
 exact ⟨cs,h1,h5⟩
theorem nilK_real {c:Cx} {x:AV} {k:Bool→Prop} (h:nilK x k) {v:Value} (r:VRel c x v):∃a n cap,v=.slice a n cap∧k a.isNone:=by
 unfold nilK at h
 split at h
 ·cases r;exact ⟨none,0,0,rfl,h⟩
 ·split at h
  ·cases r with
   |lst0 a cap ex he hm hn=>exact ⟨a,0,cap,rfl,h _⟩
   |lst hb hr hc hn he hm=>exact ⟨_,_,_,rfl,h _⟩
  ·cases r with
   |lst hb hr hc hn he hm=>exact ⟨_,_,_,rfl,h⟩
 ·cases r;exact ⟨_,_,_,rfl,h⟩
 ·exact h.elim
theorem isNilC_eq {y:Operand} (h:isNilC y=true):y=.const (.slice none 0 0):=by
 unfold isNilC at h
 split at h
 ·rfl
 ·cases h
theorem isSlT_eq {t:TypeId} (h:isSlT P t=true):∃e,P.underlying t=some (.slice e):=by
 unfold isSlT at h
 split at h
 ·rename_i e he;exact ⟨e,he⟩
 ·cases h
theorem WS_ok {R:St→Prop} {B:Nat} {c0:Cx} (hn:∀id,c0.al id→id<n0):∀(rest pre:List Oper) {s:St} {c:Cx} {a:Act},ops.toList=pre++rest→WS P K nt ops rest pre.length s R→SR K.gl B nt c s a→Step c0 c→
  wpOps P ops (TPost K nt B c0 (fun x s=>x=.normal∧R s)) (List.range' pre.length rest.length) a c.w
 |[],pre,s,c,a,hops,h,sr,st=>⟨.normal,s,c,rfl,⟨rfl,h⟩,sr,rfl,st⟩
 |o::r,pre,s,c,a,hops,h,sr,st=>by
  have hget:ops[pre.length]?=some o:=by rw [← Array.getElem?_toList,hops];simp
  have hops':ops.toList=(pre++[o])++r:=by rw [hops];simp
  simp only [List.length_cons,List.range'_succ]
  unfold wpOps
  simp only [hget]
  unfold WS at h
  split at h
  ·rename_i hw
   rw [wanted_ok (fun t _ _ _ _=>sr.e t) hw]
   simp only [if_true]
   left
   have fin:∀(c1:Cx) (v:AV) (v':Value) (m':Mem) (nx':Nat),(expS 4 (resShape P o) v fun v=>splitG (isG ops pre.length) v fun v=>putK nt s.e o.dst v fun e=>WS P K nt ops r (pre.length+1) ⟨e,m',nx'⟩ R)→VRel c1 v v'→Step c c1→Good B c1→(∀id,c1.M id=mget m' id)→(∀id,c1.al id→id<nx')→wpOps P ops (TPost K nt B c0 (fun x s=>x=.normal∧R s)) (List.range' (pre.length+1) r.length) (a.put o.dst v') c1.w:=by
    intro c1 v v' m' nx' hk k1 k2 k3 k4 k5
    obtain ⟨e',hput,hrest⟩:=putK_elim (splitG_elim (expS_elim 4 _ _ _ hk))
    have sr1:SR K.gl B nt c1 ⟨e',m',nx'⟩ (a.put o.dst v'):=⟨k3,putD_rel hput sr.sz (fun t=>(sr.e t).step k2) k1,k4,k5,put_size.trans sr.sz,put_defers.trans sr.df,sr.gl.step k2⟩
    have:=WS_ok hn r (pre++[o]) hops' (by simpa using hrest) sr1 (st.trans k2)
    simpa using this
   have plain:∀(v:AV) (d:Wr),aop P (rho K.gl s.e) (mget s.m) s.nx o=some (v,d)→(expS 4 (resShape P o) v fun v=>splitG (isG ops pre.length) v fun v=>putK nt s.e o.dst v fun e=>WS P K nt ops r (pre.length+1) ⟨e,mpushs s.m d,s.nx+1⟩ R)→o.wp P a c.w (wpOps P ops (TPost K nt B c0 (fun x s=>x=.normal∧R s)) (List.range' (pre.length+1) r.length)) (TPost K nt B c0 (fun x s=>x=.normal∧R s)):=by
    intro v d ha hk
    refine OpSem.aop ha B c a _ _ sr.g sr.gl (fun h=>Nat.lt_irrefl _ (sr.al _ h)) (fun id b h=>by rw [sr.m];exact h) (fun x _ y hy=>rho_rel sr.gl (fun t _=>sr.e t) hy) ?_
    intro c1 v' k1 k2 k3 k4 k5 k6
    exact fin c1 v v' _ _ hk k1 k2 k3 (fun id=>by rw [k4,mget_mpushs];exact upd_congr d sr.m id) (fun id h=>by
     rcases k5 id h with h|rfl
     ·exact Nat.lt_succ_of_lt (sr.al id h)
     ·exact Nat.lt_succ_self _)
   unfold opW at h
   split at h
   ·rename_i gg args ats ho
    obtain ⟨f,caps,l,h1,h2,h3⟩:=fnArgs_elim h
    have hcw:callW P K.gl s.m s.nx f (l++caps) (fun v m=>expS 4 (resShape P o) v fun v=>splitG (isG ops pre.length) v fun v=>putK nt s.e o.dst v fun e=>WS P K nt ops r (pre.length+1) ⟨e,m,s.nx+64⟩ R)∨∃v,OverD P (mget s.m) f (l++caps) v∧expS 4 (resShape P o) v fun v=>splitG (isG ops pre.length) v fun v=>putK nt s.e o.dst v fun e=>WS P K nt ops r (pre.length+1) ⟨e,s.m,s.nx+64⟩ R:=by
     cases hpm:K.pm f with
     |false=>rw [hpm] at h3;exact .inl h3
     |true=>
      rw [hpm] at h3
      obtain ⟨v,hpo,hk⟩:=h3
      rcases hpo with ⟨hp,hc⟩|hod
      ·exact .inl ⟨hp,fun B c vals g hgl hM ha hr=>(hc B c vals g hgl (fun id b hb=>by rw [hM];exact hb) hr).mono fun e w' ⟨v',c',h1,h2,h3,h4,h5,h6,h7⟩=>
        ⟨v,s.m,hk,v',c',h1,h2,h3,h4,h5,fun id=>by rw [h6,hM],fun id h=>by have:=ha id ((h7 id).1 h);omega⟩⟩
      ·exact .inr ⟨v,hod,hk⟩
    rcases hcw with ⟨hp,hc⟩|⟨v,hod,hk⟩
    ·have hg:=rho_rel (c:=c) (a:=a) sr.gl (fun t _=>sr.e t) h1
     generalize hgv:a.eval gg=u at hg
     cases hg with
     |fn f hcaps=>
      have hargs:=opts_rel (c:=c) (ev:=a.eval) (fun x _ y hy=>rho_rel sr.gl (fun t _=>sr.e t) hy) h2
      refine wp_call ho hgv hp (hc B c _ sr.g sr.gl sr.m sr.al (hargs.append hcaps)) ?_
      rintro e2 w' ⟨v,m',hk,v',c',rfl,rfl,k1,k2,k3,k4,k5⟩
      exact ⟨v',rfl,fin c' v v' m' _ hk k1 k2 k3 k4 k5⟩
    ·refine OpSem.over ho h1 h2 hod B c a _ _ sr.g sr.gl (fun h=>Nat.lt_irrefl _ (sr.al _ h)) (fun id b h=>by rw [sr.m];exact h) (fun x _ y hy=>rho_rel sr.gl (fun t _=>sr.e t) hy) ?_
     intro c1 v' k1 k2 k3 k4 k5 k6
     exact fin c1 v v' s.m (s.nx+64) hk k1 k2 k3 (fun id=>by rw [k4];exact sr.m id) (fun id h=>by
      rcases k5 id h with h|rfl
      ·have:=sr.al id h;omega
      ·omega)
   ·rename_i t x y ho
    split at h
    ·rename_i a1 x1 h1 h2
     obtain ⟨v,d,hs,hk⟩:=storeW_elim h
     exact plain v d (by simp only [aop,ho,h1,h2,hs]) hk
    ·exact h.elim
   ·rename_i t x ho
    split at h
    ·rename_i x1 h1
     obtain ⟨cs,hs,hk⟩:=boxW_elim h
     exact plain _ _ (by simp only [aop,ho,h1,Option.bind_some,hs]) hk
    ·exact h.elim
   ·rename_i t x y yt ho
    cases hq:(isSlT P t && isNilC y) with
    |false=>
     rw [hq] at h
     obtain ⟨v,ha,hk⟩:=opP_elim h
     exact plain v [] ha hk
    |true=>
     rw [hq] at h
     simp only [Bool.and_eq_true] at hq
     obtain ⟨e0,hu⟩:=isSlT_eq hq.1
     have hy:=isNilC_eq hq.2
     subst hy
     simp only [cond_true] at h
     split at h
     ·rename_i x1 h1
      have hx:=rho_rel (c:=c) (a:=a) sr.gl (fun t _=>sr.e t) h1
      obtain ⟨a1,n1,cap1,hv,hk⟩:=nilK_real h hx
      have hrun:(execOp a.eval o).run P c.w=.ok (.value (.bool a1.isNone)) c.w:=by
       have e1:a.eval (.const (.slice none 0 0))=.slice none 0 0:=rfl
       have e2:=run_equal_slice (P:=P) hu (a:=a1) (b:=none) (k:=n1) (q:=cap1) (k':=0) (q':=0) (.inr rfl) c.w
       simp only [Option.isNone_none,Bool.and_true] at e2
       simp [execOp,ho,hv,e1,eqGuard,binOp,e2]
      unfold Oper.wp
      rw [hrun]
      exact fin (c.tick s.nx) _ _ _ _ hk (.sc _ rfl) (tick_step c _) (tick_good sr.g _) sr.m (fun id h=>by
       rcases h with h|rfl
       ·exact Nat.lt_succ_of_lt (sr.al id h)
       ·exact Nat.lt_succ_self _)
     ·exact h.elim
   ·rename_i t x y yt ho
    cases hq:(isSlT P t && isNilC y) with
    |false=>
     rw [hq] at h
     obtain ⟨v,ha,hk⟩:=opP_elim h
     exact plain v [] ha hk
    |true=>
     rw [hq] at h
     simp only [Bool.and_eq_true] at hq
     obtain ⟨e0,hu⟩:=isSlT_eq hq.1
     have hy:=isNilC_eq hq.2
     subst hy
     simp only [cond_true] at h
     split at h
     ·rename_i x1 h1
      have hx:=rho_rel (c:=c) (a:=a) sr.gl (fun t _=>sr.e t) h1
      obtain ⟨a1,n1,cap1,hv,hk⟩:=nilK_real h hx
      have hrun:(execOp a.eval o).run P c.w=.ok (.value (.bool (!a1.isNone))) c.w:=by
       have e1:a.eval (.const (.slice none 0 0))=.slice none 0 0:=rfl
       have e2:=run_equal_slice (P:=P) hu (a:=a1) (b:=none) (k:=n1) (q:=cap1) (k':=0) (q':=0) (.inr rfl) c.w
       simp only [Option.isNone_none,Bool.and_true] at e2
       simp [execOp,ho,hv,e1,eqGuard,binOp,e2]
      unfold Oper.wp
      rw [hrun]
      exact fin (c.tick s.nx) _ _ _ _ hk (.sc _ rfl) (tick_step c _) (tick_good sr.g _) sr.m (fun id h=>by
       rcases h with h|rfl
       ·exact Nat.lt_succ_of_lt (sr.al id h)
       ·exact Nat.lt_succ_self _)
     ·exact h.elim
   ·cases hwr:isWr o.op with
    |true=>
     rw [hwr] at h
     obtain ⟨v,d,ha,hk⟩:=opM_elim h
     exact plain v d ha hk
    |false=>
     rw [hwr] at h
     obtain ⟨v,ha,hk⟩:=opP_elim h
     exact plain v [] ha hk
  ·rename_i hw
   rw [wanted_ok (fun t _ _ _ _=>sr.e t) hw]
   simp only [Bool.false_eq_true,if_false]
   obtain ⟨e',hput,hrest⟩:=putK_elim h
   have sr1:SR K.gl B nt c ⟨e',s.m,s.nx⟩ (a.put o.dst undef):=⟨sr.g,putD_rel hput sr.sz sr.e (.tup .nil),sr.m,sr.al,put_size.trans sr.sz,put_defers.trans sr.df,sr.gl⟩
   have:=WS_ok hn r (pre++[o]) hops' (by simpa using hrest) sr1 st
   simpa using this
  ·exact h.elim
/- regions that draw their order -/
def Trace (P:Program) (K:Cfg) (nt:Nat) (ops:Array Oper) (l:List Oper) (s s':St) (rs rs':List Rec):Prop:=
 ∃(S:Nat→St) (v:Nat→AV) (rc:Nat→Rec) (l':List Rec),S 0=s∧S l.length=s'∧rs'=rs++l'∧l'.length=l.length∧(∀i,i<l.length→l'[i]?=some (rc i))∧∀i o,l[i]?=some o→Stp P K nt ops o (S i) (S (i+1)) (v i) (rc i)
theorem Trace.nil {s:St} {rs:List Rec}:Trace P K nt ops [] s s rs rs:=⟨fun _=>s,fun _=> .und,fun _=>⟨[],[]⟩,[],rfl,rfl,by simp,rfl,fun i hi=>by simp at hi,fun i o h=>by simp at h⟩
theorem Trace.cons {o:Oper} {r:List Oper} {s s1 s':St} {rs rs':List Rec} {v0:AV} {r0:Rec} (hst:Stp P K nt ops o s s1 v0 r0) (h:Trace P K nt ops r s1 s' (rs++[r0]) rs'):Trace P K nt ops (o::r) s s' rs rs':=by
 obtain ⟨S,v,rc,l',h1,h2,h3,h4,h5,h6⟩:=h
 refine ⟨fun i=>match i with|0=>s|i+1=>S i,fun i=>match i with|0=>v0|i+1=>v i,fun i=>match i with|0=>r0|i+1=>rc i,r0::l',rfl,by simpa using h2,by rw [h3];simp,by simp [h4],fun i hi=> ?_,fun i o' ho=> ?_⟩
 ·cases i with
  |zero=>rfl
  |succ i=>simpa using h5 i (by simpa using hi)
 ·cases i with
  |zero=>
   simp only [List.getElem?_cons_zero,Option.some.injEq] at ho
   subst ho
   show Stp P K nt ops o s (S 0) v0 r0
   rw [h1];exact hst
  |succ i=>exact h6 i o' (by simpa using ho)
theorem mget_fst {m:Mem} {id:Nat} {b:ABlk} (h:mget m id=some b):id∈m.map (·.1):=by
 induction m with
 |nil=>simp [mget] at h
 |cons p r ih=>
  obtain ⟨j,v⟩:=p
  unfold mget at h
  cases hj:Nat.beq j id with
  |true=>simp [beq_true hj]
  |false=>rw [hj] at h;simp [ih h]
theorem look_all (m:Mem):look' m (m.map (·.1))=mget m:=by
 funext id
 unfold look'
 cases h:(m.map (·.1)).contains id with
 |true=>rfl
 |false=>
  simp only [cond_false]
  cases hm:mget m id with
  |none=>rfl
  |some b=>have:=mget_fst hm;simp at h;simp at this;exact absurd this (by simpa using h)
theorem WQ_trace {R:St→Prop}:∀(l:List Oper) (i:Nat) {s:St} (rs:List Rec),WQ P K nt ops l i s R→∃s' rs',R s'∧Trace P K nt ops l s s' rs rs'∧∀q∈rs',q∈rs∨q.d=[]
 |[],i,s,rs,h=>⟨s,rs,h,.nil,fun q hq=> .inl hq⟩
 |o::r,i,s,rs,h=>by
  unfold WQ at h
  split at h
  ·rename_i hw
   have fin:∀v:AV,OpSem P K.gl s.e (mget s.m) s.nx o v []→(expS 4 (resShape P o) v fun v=>splitG (isG ops i) v fun v=>putK nt s.e o.dst v fun e=>WQ P K nt ops r (i+1) ⟨e,s.m,s.nx+1⟩ R)→∃s' rs',R s'∧Trace P K nt ops (o::r) s s' rs rs'∧∀q∈rs',q∈rs∨q.d=[]:=by
    intro v ho hk
    obtain ⟨e',hput,hrest⟩:=putK_elim (splitG_elim (expS_elim 4 _ _ _ hk))
    obtain ⟨s',rs',h1,h2,h3⟩:=WQ_trace r (i+1) (rs++[⟨[],s.m.map (·.1)⟩]) hrest
    refine ⟨s',rs',h1,.cons ⟨.inl ⟨hw,by rw [look_all];exact ho⟩,hput,fun _=>rfl,rfl⟩ h2,fun q hq=> ?_⟩
    rcases h3 q hq with h|h
    ·rcases List.mem_append.1 h with h|h
     ·exact .inl h
     ·simp at h;exact .inr (by rw [h])
    ·exact .inr h
   unfold opQ at h
   split at h
   ·rename_i gg args ats ho
    obtain ⟨f,caps,l,h1,h2,v,hpc,hk⟩:=fnArgs_elim h
    rcases hpc with ⟨hp,hc⟩|hpo
    ·exact fin v (OpSem.pure ho h1 h2 hp fun B c vals g hgl hn hl hr=>(hc B c vals g hgl hl hr).mono fun _ _ h=>h.toD) hk
    ·exact fin v (OpSem.over ho h1 h2 hpo) hk
   ·obtain ⟨v,ha,hk⟩:=opP_elim h
    exact fin v (OpSem.aop ha) hk
  ·rename_i hw
   obtain ⟨e',hput,hrest⟩:=putK_elim h
   obtain ⟨s',rs',h1,h2,h3⟩:=WQ_trace r (i+1) (rs++[⟨[],[]⟩]) hrest
   refine ⟨s',rs',h1,.cons (s1:=⟨e',s.m,s.nx+1⟩) (r0:=⟨[],[]⟩) ⟨.inr ⟨hw,rfl,rfl⟩,hput,fun _=>rfl,rfl⟩ h2,fun q hq=> ?_⟩
   rcases h3 q hq with h|h
   ·rcases List.mem_append.1 h with h|h
    ·exact .inl h
    ·simp at h;exact .inr (by rw [h])
   ·exact .inr h
  ·exact h.elim
theorem WF_trace {ms:List Nat} {R:St→Prop}:∀(l:List Oper) (i:Nat) {s:St} (rs:List Rec),WF P K nt ops ms l i s rs R→∃s' rs',R s'∧Trace P K nt ops l s s' rs rs'∧confOk ms rs'=true
 |[],i,s,rs,h=>by
  obtain ⟨h1,h2⟩:=chk_elim h
  exact ⟨s,rs,h2,.nil,h1⟩
 |o::r,i,s,rs,h=>by
  unfold WF at h
  split at h
  ·rename_i hw
   have fin:∀(v:AV) (d:Wr) (ft:List Nat),OpSem P K.gl s.e (look' s.m ft) s.nx o v d→(expS 4 (resShape P o) v fun v=>splitG (isG ops i) v fun v=>putK nt s.e o.dst v fun e=>WF P K nt ops ms r (i+1) ⟨e,mpushs s.m d,s.nx+1⟩ (rs++[⟨d,ft⟩]) R)→∃s' rs',R s'∧Trace P K nt ops (o::r) s s' rs rs'∧confOk ms rs'=true:=by
    intro v d ft ho hk
    obtain ⟨e',hput,hrest⟩:=putK_elim (splitG_elim (expS_elim 4 _ _ _ hk))
    obtain ⟨s',rs',h1,h2,h3⟩:=WF_trace r (i+1) _ hrest
    exact ⟨s',rs',h1,.cons ⟨.inl ⟨hw,ho⟩,hput,mget_mpushs _ _,rfl⟩ h2,h3⟩
   unfold opF at h
   split at h
   ·rename_i gg args ats ho
    obtain ⟨f,caps,l,h1,h2,v,d,ft,hpc,hk⟩:=fnArgs_elim h
    rcases hpc with ⟨hp,hc⟩|⟨hpo,rfl⟩
    ·exact fin v d ft (OpSem.pure ho h1 h2 hp hc) hk
    ·exact fin v [] ft (OpSem.over ho h1 h2 hpo) hk
   ·rename_i t x y ho
    split at h
    ·rename_i a1 x1 h1 h2
     obtain ⟨v,d,hs,hk⟩:=storeW_elim h
     exact fin v d _ (OpSem.aop (by simp only [aop,ho,h1,h2,hs])) hk
    ·exact h.elim
   ·rename_i t x ho
    split at h
    ·rename_i x1 h1
     obtain ⟨cs,hs,hk⟩:=boxW_elim h
     exact fin _ _ _ (OpSem.aop (by simp only [aop,ho,h1,Option.bind_some,hs])) hk
    ·exact h.elim
   ·obtain ⟨v,d,ha,hk⟩:=opM_elim h
    exact fin v d _ (OpSem.aop ha) hk
  ·rename_i hw
   obtain ⟨e',hput,hrest⟩:=putK_elim h
   obtain ⟨s',rs',h1,h2,h3⟩:=WF_trace r (i+1) _ hrest
   exact ⟨s',rs',h1,.cons (s1:=⟨e',s.m,s.nx+1⟩) (r0:=⟨[],[]⟩) ⟨.inr ⟨hw,rfl,rfl⟩,hput,fun _=>rfl,rfl⟩ h2,h3⟩
  ·exact h.elim
theorem confOk_quiet {ms:List Nat} {rs:List Rec} (h:∀q∈rs,q.d=[]):confOk ms rs=true:=by
 unfold confOk
 refine List.all_eq_true.2 fun p hp=> ?_
 have:p.1∈rs:=by
  obtain ⟨q,i⟩:=p
  exact List.mem_of_getElem? (List.mem_zipIdx_iff_getElem?.1 hp)
 simp [h p.1 this]
theorem WR_ok (hm:P.follows .mixedOrders=true) {d:Bool} {id:Nat} {s:St} {R:St→Prop} (h:WR P K nt ops d s R):Tri P K nt n0 (.region id ops d) s (fun x s=>x=.normal∧R s):=by
 intro B c0 cx a sr st hn
 unfold WR at h
 cases d with
 |false=>
  simp only [cond_false] at h
  refine wp_region ?_
  have:=WS_ok (R:=R) hn ops.toList [] (by simp) h sr st
  simpa [List.range_eq_range'] using this
 |true=>
  simp only [cond_true] at h
  obtain ⟨h1,h2⟩:=chk_elim h
  have ⟨s',rs,hR,⟨S,v,rc,l',a1,a2,a3,a4,a5,a6⟩,hconf⟩:∃s' rs',R s'∧Trace P K nt ops ops.toList s s' [] rs'∧confOk (masks ops.toList []) rs'=true:=by
   cases hw:ops.toList.any wrOp with
   |true=>
    rw [hw] at h2
    exact WF_trace ops.toList 0 [] h2
   |false=>
    rw [hw] at h2
    obtain ⟨s',rs',b1,b2,b3⟩:=WQ_trace ops.toList 0 [] h2
    exact ⟨s',rs',b1,b2,confOk_quiet fun q hq=>(b3 q hq).elim (fun h=>by simp at h) (fun h=>h)⟩
  have D:=draw_mk h1 a1 a2 a3 a4 a5 a6 hconf
  exact draw_run hm D sr fun c' a' sr' st'=>⟨.normal,s',c',rfl,⟨rfl,hR⟩,sr',rfl,st.trans st'⟩
theorem thenQ_of {x:AExit} {s:St} {R:St→Prop} {Q:AExit→St→Prop} (h:x=.normal∧R s) (hR:∀s,R s→Q .normal s):Q x s:=by obtain ⟨rfl,h⟩:=h;exact hR s h
theorem W_ok (hm:P.follows .mixedOrders=true):∀(c:Code) (s:St) (Q:AExit→St→Prop),W P K nt n0 c s Q→Tri P K nt n0 c s Q
 |.skip,s,Q,h=> .skip h
 |.region id ops d,s,Q,h=>(WR_ok hm h).mono fun x s h=>thenQ_of h fun s h=>h
 |.seq a b,s,Q,h=> .seq ((W_ok hm a s _ h).mono fun x s' h=>by
   cases x with
   |normal=>exact W_ok hm b s' Q h
   |exit i=>exact h
   |ret=>exact h)
 |.cond c a b,s,Q,h=>by
  unfold W at h
  split at h
  ·rename_i v hv
   obtain ⟨b',rfl,h1,h2⟩:=spl_elim h
   exact .cond hv (fun e=>W_ok hm a s Q (h1 e)) (fun e=>W_ok hm b s Q (h2 e))
  ·exact h.elim
 |.block id b,s,Q,h=> .block (W_ok hm b s _ h)
 |.loop b,s,Q,h=>h
 |.exit i,s,Q,h=> .exit h
 |.ret,s,Q,h=> .ret h
 |.label l,s,Q,h=> .label h
 |.rangeFunc ..,s,Q,h=>by simp [W] at h
 |.scope ..,s,Q,h=>by simp [W] at h
 |.goto ..,s,Q,h=>by simp [W] at h
 |.refuse ..,s,Q,h=>by simp [W] at h
end
end Go.Proofs.YtlenkbgeomojnaaGreatDoor
/- Names for the text that the printer of conditions writes. -/
set_option linter.unusedVariables false
set_option linter.unusedSimpArgs false
namespace Go.Proofs.YtlenkbgeomojnaaGreatDoor
open Go.RowKit
def nloops:Code→Nat
 |.seq a b=>nloops a+nloops b
 |.cond _ a b=>nloops a+nloops b
 |.block _ b=>nloops b
 |.loop _=>1
 |_=>0
def loopB:Code→Nat→Code
 |.seq a b,i=>bif Nat.blt i (nloops a) then loopB a i else loopB b (i-nloops a)
 |.cond _ a b,i=>bif Nat.blt i (nloops a) then loopB a i else loopB b (i-nloops a)
 |.block _ b,i=>loopB b i
 |.loop b,_=>b
 |_,_=> .skip
def contW (P:Program) (K:Cfg) (nt n0:Nat):Code→Nat→(AExit→St→Prop)→AExit→St→Prop
 |.seq a b,i,Q=>bif Nat.blt i (nloops a) then contW P K nt n0 a i (thenQ (fun s'=>W P K nt n0 b s' Q) Q) else contW P K nt n0 b (i-nloops a) Q
 |.cond _ a b,i,Q=>bif Nat.blt i (nloops a) then contW P K nt n0 a i Q else contW P K nt n0 b (i-nloops a) Q
 |.block id b,i,Q=>contW P K nt n0 b i (blockQ id Q)
 |.loop _,_,Q=>Q
 |_,_,_=>fun _ _=>False
/- an operation of operands that are given -/
def rhoV (vals:List AV):Operand→Option AV
 |.tmp i=>vals[i]?
 |.const v=>ofVal v
 |_=>none
def opA (P:Program) (op:Op) (ty:TypeId) (vals:List AV) (look:Nat→Option ABlk) (n:Nat):Res:=aop P (rhoV vals) look n ⟨none,op,ty, "",#[],none⟩
def opN (r:Res) (m:Mem) (k:AV→Mem→Prop):Prop:=opM r fun v d=>k v (mpushs m d)
/- operations whose types are resolved -/
section
variable (look:Nat→Option ABlk)
def ldS:AV→Res
 |.ptr id off=>match look id with|some b=>(b.cells[off]?).map (·,[])|none=>none
 |.ept cs off=>(cs[off]?).map (·,[])
 |_=>none
def partA (n:Nat) (cs:List AV) (off:Nat):Option AV:=bif Nat.ble (off+n) cs.length then some (.agg ((cs.drop off).take n)) else none
def ldA (n:Nat):AV→Res
 |.ptr id off=>match look id with|some b=>(partA n b.cells off).map (·,[])|none=>none
 |.ept cs off=>(partA n cs off).map (·,[])
 |_=>none
def stO (sz:Nat) (a x:AV):Res:=
 match a,acells x,some sz with
 |.ptr id off,some cs,some sz=>
  match look id with
  |some b=>bif Nat.beq cs.length sz && Nat.ble (off+cs.length) b.cells.length && cs.all isCell then some (.und,[(id,some ⟨aput b.cells off cs,b.ty⟩)]) else none
  |none=>none
 |_,_,_=>none
def fldO (o:Nat):AV→Res
 |.ptr id off=>some (.ptr id (off+o),[])
 |.ept cs off=>some (.ept cs (off+o),[])
 |_=>none
def idxS (sz:Nat) (x i:AV):Res:=
 match i with
 |.sc (.int _ z)=>match x with
  |.sl id off esz n cap ex=>bif decide (0≤z) && decide (z<(n:Int)) then some (.ptr id (off+z.toNat*sz),[]) else none
  |.lst n cs ex=>bif decide (0≤z) && decide (z<(n:Int)) then some (.ept (elemAt sz cs z.toNat) 0,[]) else none
  |_=>none
 |_=>none
def idxA (len sz:Nat) (x i:AV):Res:=
 match i with
 |.sc (.int _ z)=>match x with
  |.ptr id off=>bif decide (0≤z) && decide (z<(len:Int)) then some (.ptr id (off+z.toNat*sz),[]) else none
  |.ept cs off=>bif decide (0≤z) && decide (z<(len:Int)) then some (.ept cs (off+z.toNat*sz),[]) else none
  |_=>none
 |_=>none
def fvS (o:Nat):AV→Res
 |.agg cs=>(cs[o]?).map (·,[])
 |_=>none
def fvA (o n:Nat):AV→Res
 |.agg cs=>(partA n cs o).map (·,[])
 |_=>none
def alc (zs:List AV) (t n:Nat):Res:=some (.ptr n 0,[(n,some ⟨zs,t⟩)])
def bx (t:Nat) (x:AV) (n:Nat):Res:=match acells x with
 |some cs=>some (.ptr n 0,[(n,some ⟨cs,t⟩)])
 |none=>none
def bld (zs:List AV) (pl:List (Nat×Nat)) (parts:List (Nat×AV)):Res:=(afill (fun i=>pl[i]?) zs parts).map (fun cs=>(.agg cs,[]))
def app (e sz by_:Nat) (zs:List AV) (n:Nat) (s x:AV):Res:=
 match cellsOf look sz x with
 |some (m,xs)=>
  bif Nat.beq m 0 then
   match s with
   |.nils|.lst ..|.sl ..=>some (s,[])
   |_=>none
  else
  match cellsOf look sz s with
  |some (k,old)=>
   bif (Nat.ble ((k+m)*by_) 140737488355328||aFits s (k+m)) && Nat.ble (k+m) 4611686018427387904 && Nat.beq zs.length sz && Nat.ble 1 sz && xs.all isCell && Nat.beq xs.length (m*sz) && Nat.beq old.length (k*sz) then
    match s with
    |.nils=>some (.sl n 0 sz (k+m) (k+m) false,[(n,some ⟨old++xs,e⟩)])
    |.lst _ _ true=>some (.sl n 0 sz (k+m) (k+m) false,[(n,some ⟨old++xs,e⟩)])
    |.sl id off esz _ cap ex=>
     bif Nat.ble (k+m) cap then
      match look id with
      |some b=>bif Nat.ble (off+(k+m)*sz) b.cells.length then some (.sl id off sz (k+m) cap ex,[(id,some ⟨aput b.cells (off+k*sz) xs,b.ty⟩)]) else none
      |none=>none
     else bif ex then some (.sl n 0 sz (k+m) (k+m) false,[(n,some ⟨old++xs,e⟩)])
     else bif Nat.beq off 0 && (match look id with|some b=>Nat.beq b.ty e|none=>false) then some (.sl n 0 sz (k+m) (k+m) false,[(n,some ⟨old++xs,e⟩),(id,none)])
     else none
    |_=>none
   else none
  |none=>none
 |none=>none
def lenS:AV→Res
 |.nils=>some (.sc (.int .i64 0),[])
 |.lst n _ _=>some (.sc (.int .i64 n),[])
 |.sl _ _ _ n _ _=>some (.sc (.int .i64 n),[])
 |_=>none
def bsl (n e sz len:Nat) (zs:List AV) (parts:List (Nat×AV)):Res:=
 bif Nat.ble (len*sz) 16777216 && Nat.beq zs.length sz && Nat.ble 1 sz then
  match afill (fun i=>some (i*sz,sz)) (rep zs len) parts with
  |some cs=>some (.sl n 0 sz len len true,[(n,some ⟨cs,e⟩)])
  |none=>none
 else none
def mks (n e sz by_:Nat) (zs:List AV) (l c:AV):Res:=
 match l,c with
 |.sc (.int .i64 x),.sc (.int .i64 y)=>
  bif decide (0≤x) && decide (x≤y) && decide (y*(by_:Int)≤140737488355328) && decide (y≤4611686018427387904) && Nat.beq zs.length sz && Nat.ble 1 sz then
   some (.sl n 0 sz x.toNat y.toNat true,[(n,some ⟨rep zs y.toNat,e⟩)])
  else none
 |_,_=>none
def slcS (sz:Nat) (x:AV) (lo hi mx:Option AV):Res:=
 match x with
 |.nils=>match bnd 0 lo,bnd 0 hi,bnd 0 mx with
  |some 0,some 0,some 0=>bif mx.isSome && hi.isNone then none else some (.nils,[])
  |_,_,_=>none
 |.lst n cs ex=>match bnd 0 lo,bnd n hi,bnd n mx with
  |some l,some h,some m=>bif Nat.ble l h && Nat.ble h m && Nat.ble m n && Nat.beq cs.length (n*sz) && !(mx.isSome && hi.isNone) then
    some (.lst (h-l) ((cs.drop (l*sz)).take ((h-l)*sz)) (mx.isSome && Nat.beq h m),[]) else none
  |_,_,_=>none
 |.sl id off esz n cap ex=>match bnd 0 lo,bnd n hi,bnd cap mx with
  |some l,some h,some m=>bif Nat.ble l h && Nat.ble h m && Nat.ble m cap && Nat.beq esz sz && !(mx.isSome && hi.isNone) then
    bif Nat.beq l m then some (.lst 0 [] (ex||mx.isSome),[]) else some (.sl id (off+l*sz) sz (h-l) (m-l) (ex||mx.isSome),[])
   else none
  |_,_,_=>none
 |_=>none
def ext (i:Nat):AV→Res
 |.tup vs=>(vs[i]?).map (·,[])
 |_=>none
end
def exA1 (v:AV) (k:AV→Prop):Prop:=exAgg 1 v fun l=>match l with
 |[a0]=>k a0
 |_=>False
def exA2 (v:AV) (k:AV→AV→Prop):Prop:=exAgg 2 v fun l=>match l with
 |[a0,a1]=>k a0 a1
 |_=>False
def exA3 (v:AV) (k:AV→AV→AV→Prop):Prop:=exAgg 3 v fun l=>match l with
 |[a0,a1,a2]=>k a0 a1 a2
 |_=>False
def exA4 (v:AV) (k:AV→AV→AV→AV→Prop):Prop:=exAgg 4 v fun l=>match l with
 |[a0,a1,a2,a3]=>k a0 a1 a2 a3
 |_=>False
def exA5 (v:AV) (k:AV→AV→AV→AV→AV→Prop):Prop:=exAgg 5 v fun l=>match l with
 |[a0,a1,a2,a3,a4]=>k a0 a1 a2 a3 a4
 |_=>False
def exA6 (v:AV) (k:AV→AV→AV→AV→AV→AV→Prop):Prop:=exAgg 6 v fun l=>match l with
 |[a0,a1,a2,a3,a4,a5]=>k a0 a1 a2 a3 a4 a5
 |_=>False
def exA7 (v:AV) (k:AV→AV→AV→AV→AV→AV→AV→Prop):Prop:=exAgg 7 v fun l=>match l with
 |[a0,a1,a2,a3,a4,a5,a6]=>k a0 a1 a2 a3 a4 a5 a6
 |_=>False
def exA8 (v:AV) (k:AV→AV→AV→AV→AV→AV→AV→AV→Prop):Prop:=exAgg 8 v fun l=>match l with
 |[a0,a1,a2,a3,a4,a5,a6,a7]=>k a0 a1 a2 a3 a4 a5 a6 a7
 |_=>False
def exA9 (v:AV) (k:AV→AV→AV→AV→AV→AV→AV→AV→AV→Prop):Prop:=exAgg 9 v fun l=>match l with
 |[a0,a1,a2,a3,a4,a5,a6,a7,a8]=>k a0 a1 a2 a3 a4 a5 a6 a7 a8
 |_=>False
def exA10 (v:AV) (k:AV→AV→AV→AV→AV→AV→AV→AV→AV→AV→Prop):Prop:=exAgg 10 v fun l=>match l with
 |[a0,a1,a2,a3,a4,a5,a6,a7,a8,a9]=>k a0 a1 a2 a3 a4 a5 a6 a7 a8 a9
 |_=>False
def exA11 (v:AV) (k:AV→AV→AV→AV→AV→AV→AV→AV→AV→AV→AV→Prop):Prop:=exAgg 11 v fun l=>match l with
 |[a0,a1,a2,a3,a4,a5,a6,a7,a8,a9,a10]=>k a0 a1 a2 a3 a4 a5 a6 a7 a8 a9 a10
 |_=>False
def exA12 (v:AV) (k:AV→AV→AV→AV→AV→AV→AV→AV→AV→AV→AV→AV→Prop):Prop:=exAgg 12 v fun l=>match l with
 |[a0,a1,a2,a3,a4,a5,a6,a7,a8,a9,a10,a11]=>k a0 a1 a2 a3 a4 a5 a6 a7 a8 a9 a10 a11
 |_=>False
def exA13 (v:AV) (k:AV→AV→AV→AV→AV→AV→AV→AV→AV→AV→AV→AV→AV→Prop):Prop:=exAgg 13 v fun l=>match l with
 |[a0,a1,a2,a3,a4,a5,a6,a7,a8,a9,a10,a11,a12]=>k a0 a1 a2 a3 a4 a5 a6 a7 a8 a9 a10 a11 a12
 |_=>False
def exA14 (v:AV) (k:AV→AV→AV→AV→AV→AV→AV→AV→AV→AV→AV→AV→AV→AV→Prop):Prop:=exAgg 14 v fun l=>match l with
 |[a0,a1,a2,a3,a4,a5,a6,a7,a8,a9,a10,a11,a12,a13]=>k a0 a1 a2 a3 a4 a5 a6 a7 a8 a9 a10 a11 a12 a13
 |_=>False
def exA15 (v:AV) (k:AV→AV→AV→AV→AV→AV→AV→AV→AV→AV→AV→AV→AV→AV→AV→Prop):Prop:=exAgg 15 v fun l=>match l with
 |[a0,a1,a2,a3,a4,a5,a6,a7,a8,a9,a10,a11,a12,a13,a14]=>k a0 a1 a2 a3 a4 a5 a6 a7 a8 a9 a10 a11 a12 a13 a14
 |_=>False
def exA16 (v:AV) (k:AV→AV→AV→AV→AV→AV→AV→AV→AV→AV→AV→AV→AV→AV→AV→AV→Prop):Prop:=exAgg 16 v fun l=>match l with
 |[a0,a1,a2,a3,a4,a5,a6,a7,a8,a9,a10,a11,a12,a13,a14,a15]=>k a0 a1 a2 a3 a4 a5 a6 a7 a8 a9 a10 a11 a12 a13 a14 a15
 |_=>False
def exA17 (v:AV) (k:AV→AV→AV→AV→AV→AV→AV→AV→AV→AV→AV→AV→AV→AV→AV→AV→AV→Prop):Prop:=exAgg 17 v fun l=>match l with
 |[a0,a1,a2,a3,a4,a5,a6,a7,a8,a9,a10,a11,a12,a13,a14,a15,a16]=>k a0 a1 a2 a3 a4 a5 a6 a7 a8 a9 a10 a11 a12 a13 a14 a15 a16
 |_=>False
def exA18 (v:AV) (k:AV→AV→AV→AV→AV→AV→AV→AV→AV→AV→AV→AV→AV→AV→AV→AV→AV→AV→Prop):Prop:=exAgg 18 v fun l=>match l with
 |[a0,a1,a2,a3,a4,a5,a6,a7,a8,a9,a10,a11,a12,a13,a14,a15,a16,a17]=>k a0 a1 a2 a3 a4 a5 a6 a7 a8 a9 a10 a11 a12 a13 a14 a15 a16 a17
 |_=>False
def exA19 (v:AV) (k:AV→AV→AV→AV→AV→AV→AV→AV→AV→AV→AV→AV→AV→AV→AV→AV→AV→AV→AV→Prop):Prop:=exAgg 19 v fun l=>match l with
 |[a0,a1,a2,a3,a4,a5,a6,a7,a8,a9,a10,a11,a12,a13,a14,a15,a16,a17,a18]=>k a0 a1 a2 a3 a4 a5 a6 a7 a8 a9 a10 a11 a12 a13 a14 a15 a16 a17 a18
 |_=>False
def exA20 (v:AV) (k:AV→AV→AV→AV→AV→AV→AV→AV→AV→AV→AV→AV→AV→AV→AV→AV→AV→AV→AV→AV→Prop):Prop:=exAgg 20 v fun l=>match l with
 |[a0,a1,a2,a3,a4,a5,a6,a7,a8,a9,a10,a11,a12,a13,a14,a15,a16,a17,a18,a19]=>k a0 a1 a2 a3 a4 a5 a6 a7 a8 a9 a10 a11 a12 a13 a14 a15 a16 a17 a18 a19
 |_=>False
def exA21 (v:AV) (k:AV→AV→AV→AV→AV→AV→AV→AV→AV→AV→AV→AV→AV→AV→AV→AV→AV→AV→AV→AV→AV→Prop):Prop:=exAgg 21 v fun l=>match l with
 |[a0,a1,a2,a3,a4,a5,a6,a7,a8,a9,a10,a11,a12,a13,a14,a15,a16,a17,a18,a19,a20]=>k a0 a1 a2 a3 a4 a5 a6 a7 a8 a9 a10 a11 a12 a13 a14 a15 a16 a17 a18 a19 a20
 |_=>False
def exA22 (v:AV) (k:AV→AV→AV→AV→AV→AV→AV→AV→AV→AV→AV→AV→AV→AV→AV→AV→AV→AV→AV→AV→AV→AV→Prop):Prop:=exAgg 22 v fun l=>match l with
 |[a0,a1,a2,a3,a4,a5,a6,a7,a8,a9,a10,a11,a12,a13,a14,a15,a16,a17,a18,a19,a20,a21]=>k a0 a1 a2 a3 a4 a5 a6 a7 a8 a9 a10 a11 a12 a13 a14 a15 a16 a17 a18 a19 a20 a21
 |_=>False
def exA23 (v:AV) (k:AV→AV→AV→AV→AV→AV→AV→AV→AV→AV→AV→AV→AV→AV→AV→AV→AV→AV→AV→AV→AV→AV→AV→Prop):Prop:=exAgg 23 v fun l=>match l with
 |[a0,a1,a2,a3,a4,a5,a6,a7,a8,a9,a10,a11,a12,a13,a14,a15,a16,a17,a18,a19,a20,a21,a22]=>k a0 a1 a2 a3 a4 a5 a6 a7 a8 a9 a10 a11 a12 a13 a14 a15 a16 a17 a18 a19 a20 a21 a22
 |_=>False
def exA24 (v:AV) (k:AV→AV→AV→AV→AV→AV→AV→AV→AV→AV→AV→AV→AV→AV→AV→AV→AV→AV→AV→AV→AV→AV→AV→AV→Prop):Prop:=exAgg 24 v fun l=>match l with
 |[a0,a1,a2,a3,a4,a5,a6,a7,a8,a9,a10,a11,a12,a13,a14,a15,a16,a17,a18,a19,a20,a21,a22,a23]=>k a0 a1 a2 a3 a4 a5 a6 a7 a8 a9 a10 a11 a12 a13 a14 a15 a16 a17 a18 a19 a20 a21 a22 a23
 |_=>False
def exT0 (v:AV) (k:Prop):Prop:=exTup 0 v fun l=>match l with
 |[]=>k
 |_=>False
def exT2 (v:AV) (k:AV→AV→Prop):Prop:=exTup 2 v fun l=>match l with
 |[a0,a1]=>k a0 a1
 |_=>False
def exT3 (v:AV) (k:AV→AV→AV→Prop):Prop:=exTup 3 v fun l=>match l with
 |[a0,a1,a2]=>k a0 a1 a2
 |_=>False
def exT4 (v:AV) (k:AV→AV→AV→AV→Prop):Prop:=exTup 4 v fun l=>match l with
 |[a0,a1,a2,a3]=>k a0 a1 a2 a3
 |_=>False
def exT5 (v:AV) (k:AV→AV→AV→AV→AV→Prop):Prop:=exTup 5 v fun l=>match l with
 |[a0,a1,a2,a3,a4]=>k a0 a1 a2 a3 a4
 |_=>False
def exT6 (v:AV) (k:AV→AV→AV→AV→AV→AV→Prop):Prop:=exTup 6 v fun l=>match l with
 |[a0,a1,a2,a3,a4,a5]=>k a0 a1 a2 a3 a4 a5
 |_=>False
def exT7 (v:AV) (k:AV→AV→AV→AV→AV→AV→AV→Prop):Prop:=exTup 7 v fun l=>match l with
 |[a0,a1,a2,a3,a4,a5,a6]=>k a0 a1 a2 a3 a4 a5 a6
 |_=>False
def exT8 (v:AV) (k:AV→AV→AV→AV→AV→AV→AV→AV→Prop):Prop:=exTup 8 v fun l=>match l with
 |[a0,a1,a2,a3,a4,a5,a6,a7]=>k a0 a1 a2 a3 a4 a5 a6 a7
 |_=>False
@[simp] theorem chk_true (p:Prop):chk true p=p:=rfl
/- results -/
def seqL:List (Option AV)→Option (List AV)
 |[]=>some []
 |r::rs=>match r,seqL rs with
  |some v,some l=>some (v::l)
  |_,_=>none
def mkRes:Option (List AV)→Option AV
 |some [v]=>some v
 |some l=>some (.tup l)
 |none=>none
def retL (R:AV→Mem→Prop) (m:Mem) (os:List (Option AV)):Prop:=match mkRes (seqL os) with
 |some v=>R v m
 |none=>False
def retQ (P:Program) (fn:Func) (R:AV→Mem→Prop):AExit→St→Prop
 |.normal,s=>(match aResults P fn s with|some v=>R v s.m|none=>False)
 |.ret,s=>(match aResults P fn s with|some v=>R v s.m|none=>False)
 |_,_=>False
end Go.Proofs.YtlenkbgeomojnaaGreatDoor
/- Rules: functions, calls, loops, states that say less. -/
set_option linter.unusedVariables false
set_option linter.unusedSimpArgs false
namespace Go.Proofs.YtlenkbgeomojnaaGreatDoor
open Go.RowKit
/- a value said with less -/
mutual
def norm:AV→AV
 |.nils=> .lst 0 [] false
 |.lst n cs _=> .lst n (norms cs) false
 |.agg cs=> .agg (norms cs)
 |.tup cs=> .tup (norms cs)
 |.ept cs off=> .ept (norms cs) off
 |.fn f cs=> .fn f (norms cs)
 |x=>x
def norms:List AV→List AV
 |[]=>[]
 |x::xs=>norm x::norms xs
end
mutual
theorem norm_rel {c:Cx} {x:AV} {v:Value}:VRel c x v→VRel c (norm x) v
 |.und v=> .und v
 |.sc v h=> .sc v h
 |.agg h=> .agg (norms_rel h)
 |.tup h=> .tup (norms_rel h)
 |.nilp=> .nilp
 |.ptr h off=> .ptr h off
 |.ept hb h hc off=> .ept hb (norms_rel h) hc off
 |.nils=> .lst0 none 0 false (fun h=>by cases h) (Nat.zero_le _) (fun _=>rfl)
 |.lst0 a cap ex he hm hn=> .lst0 a cap false (fun h=>by cases h) hm hn
 |.lst hb h hc hn he hm=> .lst hb (norms_rel h) hc hn (fun h=>by cases h) hm
 |.sl h hb hs hn hc he hm=> .sl h hb hs hn hc he hm
 |.fn f h=> .fn f (norms_rel h)
 |.ifcN=> .ifcN
 |.ifcS u v=> .ifcS u v
theorem norms_rel {c:Cx} {xs:List AV} {vs:List Value}:Rels c xs vs→Rels c (norms xs) vs
 |.nil=> .nil
 |.cons h t=> .cons (norm_rel h) (norms_rel t)
end
section
variable {P:Program} {K:Cfg} {gl:Nat→Option (List AV)}
/- what a run of its own hands back -/
def Own (P:Program) (gl:Nat→Option (List AV)) (f:FuncId) (args:List AV) (R:AV→Mem→Prop):Prop:=
 Plainly P f∧∀(B:Nat) (c:Cx) (vals:List Value),Good B c→GlobOk gl c→(∀id,c.M id=none)→(∀id,¬c.al id)→Rels c args vals→Calls P f vals.toArray c.w (fun e w'=>∃u m nx,R u m∧CallPost B c u m nx e w')
theorem own_of_W (hm:P.follows .mixedOrders=true) {f:FuncId} {fn:Func} {code:Code} (hf:P.funcs[f]?=some fn) (hb:fn.body=some code) (hn:(fn.name== "runtime.NumGoroutine")=false) {args:List AV} (hl:Nat.ble args.length fn.ntmps=true) {R:AV→Mem→Prop}
  (h:W P K fn.ntmps 0 code ⟨initEnv args 0,[],0⟩ (retQ P fn R)):Own P K.gl f args R:=by
 refine ⟨⟨fn,code,hf,hb,hn⟩,fun B c vals g hgl hM ha hr=> ?_⟩
 have tri:Tri P K fn.ntmps 0 code ⟨initEnv args 0,[],0⟩ (fun x s=>(x=.normal∨x=.ret)∧∃v,aResults P fn s=some v∧R v s.m):=(W_ok hm code _ _ h).mono fun x s hq=>by
  cases x with
  |normal=>
   simp only [retQ] at hq
   split at hq
   ·rename_i v hv;exact ⟨.inl rfl,v,hv,hq⟩
   ·exact hq.elim
  |ret=>
   simp only [retQ] at hq
   split at hq
   ·rename_i v hv;exact ⟨.inr rfl,v,hv,hq⟩
   ·exact hq.elim
  |exit i=>exact hq.elim
 exact (calls_of_tri (R:=fun v m' _=>R v m') hf hb (Nat.le_of_ble_eq_true hl) tri g hgl (fun id=>by rw [hM];rfl) (fun id h=>absurd h (ha id)) hr).mono fun e w' ⟨v,m',nx',h1,h2⟩=>⟨v,m',nx',h1,h2⟩
theorem own_of_F (hm:P.follows .mixedOrders=true) {f:FuncId} {fn:Func} {code:Code} (hf:P.funcs[f]?=some fn) (hb:fn.body=some code) (hn:(fn.name== "runtime.NumGoroutine")=false) {args:List AV} (hl:Nat.ble args.length fn.ntmps=true) {R:AV→Mem→Prop} {X:Prop}
  (hX:W P K fn.ntmps 0 code ⟨initEnv args 0,[],0⟩ (retQ P fn R)=X) (h:X):Own P K.gl f args R:=own_of_W hm hf hb hn hl (hX.mpr h)
theorem Own.mono {f:FuncId} {args:List AV} {R R':AV→Mem→Prop} (h:Own P gl f args R) (hr:∀v m,R v m→R' v m):Own P gl f args R':=
 ⟨h.1,fun B c vals g hgl hM ha hr'=>(h.2 B c vals g hgl hM ha hr').mono fun e w' ⟨u,m,nx,h1,h2⟩=>⟨u,m,nx,hr u m h1,h2⟩⟩
/- the answer, with its memory at rest -/
def Ans (v:AV) (u:AV) (m:Mem):Prop:=(freeze (mget m) 6 u).map norm=some v
theorem PureAt.any {f:FuncId} {args:List AV} {v:AV} (h:PureAt P gl (fun _=>none) f args v) (look:Nat→Option ABlk):PureAt P gl look f args v:=
 ⟨h.1,fun B c vals g hgl _ hr=>h.2 B c vals g hgl (fun _ _ h=>by cases h) hr⟩
theorem says_of_own {f:FuncId} {args:List AV} {v:AV} (hc:cleans args=true) (hv:clean v=true) (h:Own P gl f args (Ans v)):Says P gl f args v:=by
 refine ⟨hc,hv,h.1,fun B c vals g hgl _ hr=> ?_⟩
 have hBs:=g.hB
 have hno:∀b,(c.own b∨c.no b)→b<c.w.heap.size:=by
  rintro b (⟨id,blk,h1,h2⟩|h)
  ·rw [← h2];exact g.lt h1
  ·have:=g.nol b h;omega
 have hst:∀b,c.stable b→(c.alone fun b=>c.own b∨c.no b).stable b:=fun b ⟨h1,h2,h3⟩=>⟨h1,alone_own,fun h=>h.elim h2 h3⟩
 refine (h.2 c.w.heap.size (c.alone fun b=>c.own b∨c.no b) vals (alone_good hno) (GlobOk.clean_to (c:=c) rfl hst hgl) (fun _=>rfl) (fun _ h=>h) (Rels.clean_to (c:=c) (c0:=c.alone fun b=>c.own b∨c.no b) rfl hst hr hc)).mono ?_
 rintro e w' ⟨u,m,nx,hans,u',c0,rfl,rfl,k1,k2,k3,k4,k5⟩
 obtain ⟨v',hv',rfl⟩:=Option.map_eq_some_iff.1 hans
 refine ⟨u',{c with w:=c0.w},rfl,rfl,norm_rel ?_,alone_step g k2,alone_back g k2,fun _=>rfl,fun _=>Iff.rfl⟩
 refine freeze_rel (c':={c with w:=c0.w}) k3 rfl ?_ ?_ (fun id b h=>by rw [k4];exact h) 6 k1 hv'
 ·rintro b ⟨h1,h2,h3⟩
  refine ⟨h1,fun ho=>h3 ((k2.no b).2 (.inl ho)),fun hn=>h3 ((k2.no b).2 (.inr hn))⟩
 ·rintro b ⟨id,blk,h1,h2⟩
  have hlow:=(k3.low id blk h1).1
  refine ⟨by rw [← h2];exact k3.lt h1,?_,fun hn=> ?_⟩
  ·rintro ⟨id',blk',h1',h2'⟩
   have:=g.lt h1'
   have e2:c.f id'=b:=h2'
   omega
  ·have:b<B:=g.nol b hn
   omega
/- arguments in memory that is only read -/
theorem Says.at {f:FuncId} {args:List AV} {v:AV} (h:Says P gl f args v) (look:Nat→Option ABlk):PureAt P gl look f args v:=h.2.2.any look
theorem callW_pure {m:Mem} {nx:Nat} {f:FuncId} {args:List AV} {v:AV} {k:AV→Mem→Prop} (h:PureAt P gl (mget m) f args v) (hk:k v m):callW P gl m nx f args k:=
 ⟨h.1,fun B c vals g hgl hM ha hr=>(h.2 B c vals g hgl (fun id b hb=>by rw [hM];exact hb) hr).mono fun e w' ⟨v',c',h1,h2,h3,h4,h5,h6,h7⟩=>
  ⟨v,m,hk,v',c',h1,h2,h3,h4,h5,fun id=>by rw [h6,hM],fun id h=>by have:=ha id ((h7 id).1 h);omega⟩⟩
theorem callW_says {m:Mem} {nx:Nat} {f:FuncId} {args:List AV} {v:AV} {k:AV→Mem→Prop} (h:Says P gl f args v) (hk:k v m):callW P gl m nx f args k:=callW_pure (h.at _) hk
theorem callQ_says {m:Mem} {f:FuncId} {args:List AV} {v:AV} {k:AV→Prop} (h:Says P gl f args v) (hk:k v):callQ P gl m f args k:=⟨v,.inl (h.at _),hk⟩
theorem callQ_pure {m:Mem} {f:FuncId} {args:List AV} {v:AV} {k:AV→Prop} (h:PureAt P gl (mget m) f args v) (hk:k v):callQ P gl m f args k:=⟨v,.inl h,hk⟩
theorem callF_says {m:Mem} {n:Nat} {f:FuncId} {args:List AV} {v:AV} {k:AV→Wr→List Nat→Prop} (h:Says P gl f args v) (hk:k v [] []):callF P gl m n f args k:=⟨v,[],[],.inl (h.at _).toD,hk⟩
/- functions that make a slice -/
def MadeSl (off esz k cap:Nat) (ex:Bool) (b:ABlk) (u:AV) (m:Mem):Prop:=∃id,u=.sl id off esz k cap ex∧mget m id=some b
/- the same, of arguments in memory that is only read -/
theorem callW_D {m:Mem} {nx:Nat} {f:FuncId} {args:List AV} {v:AV} {d:Wr} {k:AV→Mem→Prop} (h:PureD P gl (mget m) nx f args v d) (hk:k v (mpushs m d)):callW P gl m nx f args k:=
 ⟨h.1,fun B c vals g hgl hM ha hr=>(h.2 B c vals g hgl (fun h=>Nat.lt_irrefl _ (ha _ h)) (fun id b hb=>by rw [hM];exact hb) hr).mono fun e w' ⟨v',c',h1,h2,h3,h4,h5,h6,h7,h8⟩=>
  ⟨v,mpushs m d,hk,v',c',h1,h2,h3,h4,h5,fun id=>by rw [h6,mget_mpushs];exact upd_congr d hM id,fun id h=>by
   rcases h7 id h with h|rfl
   ·have:=ha id h;omega
   ·omega⟩⟩
theorem callF_D {m:Mem} {n:Nat} {f:FuncId} {args:List AV} {v:AV} {d:Wr} (ft:List Nat) {k:AV→Wr→List Nat→Prop} (h:PureD P gl (look' m ft) n f args v d) (hk:k v d ft):callF P gl m n f args k:=⟨v,d,ft,.inl h,hk⟩
/- states that say less -/
def Weak (K:Cfg) (nt n0:Nat) (s s0:St):Prop:=∀(B:Nat) (c0 cx:Cx) (a:Act),SR K.gl B nt cx s a→Step c0 cx→(∀id,c0.al id→id<n0)→∃cx',SR K.gl B nt cx' s0 a∧Step c0 cx'∧cx'.w=cx.w
variable {nt n0:Nat}
theorem Tri.weak {s s0:St} {c:Code} {Q:AExit→St→Prop} (hw:Weak K nt n0 s s0) (h:Tri P K nt n0 c s0 Q):Tri P K nt n0 c s Q:=fun B c0 cx a sr st hn=>by
 obtain ⟨cx',sr',st',e⟩:=hw B c0 cx a sr st hn
 rw [← e];exact h B c0 cx' a sr' st' hn
theorem TriN.weak {s s0:St} {c:Code} {n:Nat} {Q:AExit→St→Prop} (hw:Weak K nt n0 s s0) (h:TriN P K nt n0 c n s0 Q):TriN P K nt n0 c n s Q:=fun B c0 cx a sr st hn=>by
 obtain ⟨cx',sr',st',e⟩:=hw B c0 cx a sr st hn
 rw [← e];exact h B c0 cx' a sr' st' hn
theorem Tri.loops (hm:P.follows .mixedOrders=true) {body:Code} {Q:AExit→St→Prop} {σ:Type} (I:σ→Prop) (st:σ→St) (μ:σ→Nat)
  (step:∀x,I x→W P K nt n0 body (st x) (thenQ (fun s'=>∃y,I y∧μ y<μ x∧Weak K nt n0 s' (st y)) Q)):∀x,I x→Tri P K nt n0 (.loop body) (st x) Q:=by
 have key:∀n x,μ x<n→I x→TriN P K nt n0 body n (st x) Q:=by
  intro n
  induction n with
  |zero=>intro x h;omega
  |succ n ih=>
   intro x hx hI
   refine TriN.succ ((W_ok hm body _ _ (step x hI)).mono fun ex s' h=> ?_)
   cases ex with
   |normal=>
    obtain ⟨y,hy,hlt,hw⟩:=h
    exact (ih y (by omega) hy).weak hw
   |exit i=>exact h
   |ret=>exact h
 exact fun x hI=> .loop (key (μ x+1) x (by omega) hI)
/- other names for the numbers -/
mutual
def ren (π:Nat→Nat):AV→AV
 |.agg cs=> .agg (rens π cs)
 |.tup cs=> .tup (rens π cs)
 |.ptr id off=> .ptr (π id) off
 |.ept cs off=> .ept (rens π cs) off
 |.lst n cs ex=> .lst n (rens π cs) ex
 |.sl id off esz n cap ex=> .sl (π id) off esz n cap ex
 |.fn f cs=> .fn f (rens π cs)
 |x=>x
def rens (π:Nat→Nat):List AV→List AV
 |[]=>[]
 |x::xs=>ren π x::rens π xs
end
mutual
theorem ren_clean (π:Nat→Nat):∀{x:AV},clean x=true→ren π x=x
 |.und,_=>rfl
 |.sc _,_=>rfl
 |.agg cs,h=>by simp only [ren];rw [rens_clean π (by simpa [clean] using h)]
 |.tup cs,h=>by simp only [ren];rw [rens_clean π (by simpa [clean] using h)]
 |.nilp,_=>rfl
 |.ptr ..,h=>by simp [clean] at h
 |.ept cs off,h=>by simp only [ren];rw [rens_clean π (by simpa [clean] using h)]
 |.nils,_=>rfl
 |.lst n cs ex,h=>by simp only [ren];rw [rens_clean π (by simpa [clean] using h)]
 |.sl ..,h=>by simp [clean] at h
 |.fn f cs,h=>by simp only [ren];rw [rens_clean π (by simpa [clean] using h)]
 |.ifc _,_=>rfl
theorem rens_clean (π:Nat→Nat):∀{xs:List AV},cleans xs=true→rens π xs=xs
 |[],_=>rfl
 |x::xs,h=>by
  simp only [cleans,Bool.and_eq_true] at h
  simp only [rens];rw [ren_clean π h.1,rens_clean π h.2]
end
def Cx.ren (c:Cx) (π:Nat→Nat) (m0:Mem):Cx:={w:=c.w,f:=fun id=>c.f (π id),al:=fun id=>c.al (π id),M:=mget m0,no:=c.no}
section
variable {c:Cx} {π:Nat→Nat} {m0:Mem}
theorem ren_stable (ho:∀b,(c.ren π m0).own b→c.own b) {b:Nat} (h:c.stable b):(c.ren π m0).stable b:=⟨h.1,fun h'=>h.2.1 (ho b h'),h.2.2⟩
mutual
theorem ren_rel (ho:∀b,(c.ren π m0).own b→c.own b):∀{x:AV} {v:Value},VRel c (Go.Proofs.YtlenkbgeomojnaaGreatDoor.ren π x) v→VRel (c.ren π m0) x v
 |.und,v,_=> .und v
 |.sc u,v,h=>by simp only [Go.Proofs.YtlenkbgeomojnaaGreatDoor.ren] at h;cases h with|sc _ hv=>exact .sc _ hv
 |.agg cs,v,h=>by simp only [Go.Proofs.YtlenkbgeomojnaaGreatDoor.ren] at h;cases h with|agg hr=>exact .agg (rens_rel ho hr)
 |.tup cs,v,h=>by simp only [Go.Proofs.YtlenkbgeomojnaaGreatDoor.ren] at h;cases h with|tup hr=>exact .tup (rens_rel ho hr)
 |.nilp,v,h=>by simp only [Go.Proofs.YtlenkbgeomojnaaGreatDoor.ren] at h;cases h;exact .nilp
 |.ptr id off,v,h=>by simp only [Go.Proofs.YtlenkbgeomojnaaGreatDoor.ren] at h;cases h with|ptr ha=>exact VRel.ptr (c:=c.ren π m0) (id:=id) ha off
 |.ept cs off,v,h=>by simp only [Go.Proofs.YtlenkbgeomojnaaGreatDoor.ren] at h;cases h with|ept hb hr hc off=>exact VRel.ept (c:=c.ren π m0) (ren_stable ho hb) (rens_rel ho hr) hc off
 |.nils,v,h=>by simp only [Go.Proofs.YtlenkbgeomojnaaGreatDoor.ren] at h;cases h;exact .nils
 |.lst n cs ex,v,h=>by
  simp only [Go.Proofs.YtlenkbgeomojnaaGreatDoor.ren] at h
  generalize hcs:rens π cs=cs' at h
  cases h with
  |lst0 a cap ex he hm hn=>
   cases cs with
   |nil=>exact .lst0 a cap ex he hm hn
   |cons y ys=>simp [rens] at hcs
  |lst hb hr hc hn he hm=>rw [← hcs] at hr;exact VRel.lst (c:=c.ren π m0) (ren_stable ho hb) (rens_rel ho hr) hc hn he hm
 |.sl id off esz n cap ex,v,h=>by simp only [Go.Proofs.YtlenkbgeomojnaaGreatDoor.ren] at h;cases h with|sl ha hb hs hn hc he hm=>exact VRel.sl (c:=c.ren π m0) (id:=id) ha hb hs hn hc he hm
 |.fn f cs,v,h=>by simp only [Go.Proofs.YtlenkbgeomojnaaGreatDoor.ren] at h;cases h with|fn f hr=>exact .fn f (rens_rel ho hr)
 |.ifc p,v,h=>by
  simp only [Go.Proofs.YtlenkbgeomojnaaGreatDoor.ren] at h
  cases h with
  |ifcN=>exact .ifcN
  |ifcS u q=>exact .ifcS u q
theorem rens_rel (ho:∀b,(c.ren π m0).own b→c.own b):∀{xs:List AV} {vs:List Value},Rels c (rens π xs) vs→Rels (c.ren π m0) xs vs
 |[],vs,h=>by simp only [rens] at h;cases h;exact .nil
 |x::xs,vs,h=>by simp only [rens] at h;cases h with|cons h1 h2=>exact .cons (ren_rel ho h1) (rens_rel ho h2)
end
end
/- no memory, no numbers -/
def allE (e0:List (Nat×AV)) (p:Nat→AV→Bool):Bool:=e0.all fun q=>p q.1 q.2
theorem eget_mem:∀(e:List (Nat×AV)) (t:Nat),eget e t=.und∨(t,eget e t)∈e
 |[],t=> .inl rfl
 |(j,v)::r,t=>by
  unfold eget
  cases h:Nat.beq j t with
  |true=>simp only [cond_true];rw [beq_true h];exact .inr (by simp)
  |false=>
   simp only [cond_false]
   rcases eget_mem r t with h|h
   ·exact .inl h
   ·exact .inr (by simp [h])
/- the same, entry by entry -/
def okE (e:List (Nat×AV)):List (Nat×AV)→Prop
 |[]=>True
 |(t,v)::r=>(eget e t=v∧clean v=true)∧okE e r
end
end Go.Proofs.YtlenkbgeomojnaaGreatDoor
/- Typed lists as plain values; how operations run on values that are known in part. -/
set_option linter.unusedVariables false
set_option linter.unusedSimpArgs false
namespace Go.Proofs.YtlenkbgeomojnaaGreatDoor
open Go.RowKit
/- a type's elements as cells -/
structure En (α:Type) where
 size:Nat
 enc:α→List AV
 len:∀x,(enc x).length=size
 pos:0<size
 cell:∀x,(enc x).all isCell=true
 cln:∀x,cleans (enc x)=true
 nrm:∀x,norms (enc x)=enc x
def encs {α:Type} (E:En α) (l:List α):List AV:=l.flatMap E.enc
abbrev lstA {α:Type} (E:En α) (l:List α):AV:=.lst l.length (encs E l) false
abbrev intA (z:Int):AV:=.sc (.int .i64 z)
abbrev boolA (b:Bool):AV:=.sc (.bool b)
abbrev strA (s:ByteArray):AV:=.sc (.string s)
section
variable {α:Type} {E:En α}
theorem encs_nil:encs E []=[]:=rfl
theorem encs_cons (x:α) (l:List α):encs E (x::l)=E.enc x++encs E l:=rfl
theorem encs_append (l k:List α):encs E (l++k)=encs E l++encs E k:=by simp [encs]
theorem encs_one (x:α):encs E [x]=E.enc x:=by simp [encs]
theorem encs_length (l:List α):(encs E l).length=l.length*E.size:=by
 induction l with
 |nil=>simp [encs]
 |cons x l ih=>rw [encs_cons,List.length_append,ih,E.len,List.length_cons,Nat.add_mul,Nat.one_mul,Nat.add_comm]
theorem encs_drop (l:List α) (i:Nat):(encs E l).drop (i*E.size)=encs E (l.drop i):=by
 induction l generalizing i with
 |nil=>simp [encs]
 |cons x l ih=>
  cases i with
  |zero=>simp
  |succ i=>
   rw [encs_cons,List.drop_append,List.drop_succ_cons,E.len]
   have h1:(E.enc x).drop ((i+1)*E.size)=[]:=List.drop_eq_nil_of_le (by rw [E.len,Nat.add_mul];omega)
   have h2:(i+1)*E.size-E.size=i*E.size:=by rw [Nat.add_mul];omega
   rw [h1,h2,List.nil_append,ih]
theorem encs_take (l:List α) (i:Nat):(encs E l).take (i*E.size)=encs E (l.take i):=by
 induction l generalizing i with
 |nil=>simp [encs]
 |cons x l ih=>
  cases i with
  |zero=>simp [encs]
  |succ i=>
   rw [encs_cons,List.take_append,List.take_succ_cons,E.len,encs_cons]
   have h1:(E.enc x).take ((i+1)*E.size)=E.enc x:=List.take_of_length_le (by rw [E.len,Nat.add_mul];omega)
   have h2:(i+1)*E.size-E.size=i*E.size:=by rw [Nat.add_mul];omega
   rw [h1,h2,ih]
theorem elemAt_encs (l:List α) (i:Nat) (h:i<l.length):elemAt E.size (encs E l) i=E.enc l[i]:=by
 unfold elemAt
 rw [encs_drop,List.drop_eq_getElem_cons h,encs_cons,List.take_append_of_le_length (by rw [E.len];exact Nat.le_refl _),List.take_of_length_le (by rw [E.len];exact Nat.le_refl _)]
theorem cleans_append:∀(a b:List AV),cleans (a++b)=(cleans a && cleans b)
 |[],b=>by simp [cleans]
 |x::a,b=>by simp [cleans,cleans_append a b,Bool.and_assoc]
theorem norms_append:∀(a b:List AV),norms (a++b)=norms a++norms b
 |[],b=>by simp [norms]
 |x::a,b=>by simp [norms,norms_append a b]
theorem encs_clean (l:List α):cleans (encs E l)=true:=by
 induction l with
 |nil=>rfl
 |cons x l ih=>rw [encs_cons,cleans_append,E.cln,ih];rfl
theorem encs_norm (l:List α):norms (encs E l)=encs E l:=by
 induction l with
 |nil=>rfl
 |cons x l ih=>rw [encs_cons,norms_append,E.nrm,ih]
theorem encs_cell (l:List α):(encs E l).all isCell=true:=by
 induction l with
 |nil=>rfl
 |cons x l ih=>rw [encs_cons,List.all_append,E.cell,ih];rfl
theorem mapO_clean (look:Nat→Option ABlk) (k:Nat):∀(cs:List AV),cs.all isCell=true→cleans cs=true→mapO (freeze look (k+1)) cs=some cs
 |[],_,_=>rfl
 |x::cs,h1,h2=>by
  simp only [List.all_cons,Bool.and_eq_true] at h1
  simp only [cleans,Bool.and_eq_true] at h2
  have hx:freeze look (k+1) x=some x:=by
   cases x<;>simp [isCell] at h1<;>simp [clean] at h2<;>simp [freeze,clean,h2]
  unfold mapO
  rw [hx,mapO_clean look k cs h1.2 h2.2]
theorem snap_clean (look:Nat→Option ABlk) (k:Nat):∀(cs:List AV),cs.all isCell=true→(∀x∈cs,∀f l,x≠.fn f l)→cleans cs=true→mapO (snap look (k+1)) cs=some cs
 |[],_,_,_=>rfl
 |x::cs,h1,h3,h2=>by
  simp only [List.all_cons,Bool.and_eq_true] at h1
  simp only [cleans,Bool.and_eq_true] at h2
  have hx:snap look (k+1) x=some x:=by
   cases x with
   |fn f l=>exact absurd rfl (h3 _ (by simp) f l)
   |_=>simp [isCell] at h1<;>simp [clean] at h2<;>simp [snap,clean,h2]
  unfold mapO
  rw [hx,snap_clean look k cs h1.2 (fun y hy=>h3 y (by simp [hy])) h2.2]
/- the run -/
theorem cond_of {b:Bool} {x y:Prop} (h1:b=true→x) (h2:b=false→y):bif b then x else y:=by cases b<;>simp_all
variable {P:Program} {look:Nat→Option ABlk} {t yt ty n:Nat}
theorem opA_bin {op:BinOp} {a b v:Value} (h:fastBin op a b=some v):opA P (.binOp op t (.tmp 0) (.tmp 1) yt) ty [.sc a,.sc b] look n=some (.sc v,[]):=by simp [opA,aop,aBin,rhoV,h]
theorem idxS_lst {sz:Nat} (hs:E.size=sz) (l:List α) (ex:Bool) (i:Nat) (h:i<l.length):idxS sz (.lst l.length (encs E l) ex) (.sc (.int .i64 (i:Int)))=some (.ept (E.enc l[i]) 0,[]):=by
 subst hs
 have h1:decide ((0:Int)≤(i:Int))=true:=by simp
 have h2:decide ((i:Int)<(l.length:Int))=true:=by simpa using h
 simp only [idxS,h1,h2,Bool.true_or,Bool.and_self,cond_true,Int.toNat_natCast,elemAt_encs l i h]
theorem ldS_ptr {id off:Nat} {b:ABlk} {x:AV} (hb:look id=some b) (h:b.cells[off]?=some x):ldS look (.ptr id off)=some (x,[]):=by simp [ldS,hb,h]
theorem wrap64 {z:Int} (h1: -9223372036854775808≤z) (h2:z≤9223372036854775807):IntKind.wrap .i64 z=z:=IntWalk.i64_in z ⟨h1,h2⟩
/- parts of slices -/
/- a slice of the run's own, from a list -/
theorem nilK_lst {l:List α} {ex:Bool} {k:Bool→Prop} (h:∀b,(b=true→l=[])→k b):nilK (.lst l.length (encs E l) ex) k:=by
 cases l with
 |nil=>exact fun b=>h b fun _=>rfl
 |cons x l=>
  have hx:encs E (x::l)≠[]:=by
   intro e
   have:=congrArg List.length e
   rw [encs_length] at this
   have hp:=E.pos
   simp only [List.length_cons,List.length_nil] at this
   have:(l.length+1)*E.size≥1*1:=Nat.mul_le_mul (by omega) hp
   omega
  unfold nilK
  split
  ·rename_i h';cases h'
  ·rename_i h'
   cases h'
   split
   ·rename_i h';exact absurd h' hx
   ·exact h false (fun h=>by cases h)
  ·rename_i h';cases h'
  ·rename_i h1 h2 h3;exact absurd rfl (h2 _ _ _)
theorem app_lst {e sz by_:Nat} {zs:List AV} {m:Nat} {x:AV} (hs:E.size=sz) (l:List α) {ex:Bool} (h0:l≠[]) (hb:l.length*by_≤140737488355328) (hb2:l.length≤4611686018427387904) (hz:zs.length=sz) (id off cap:Nat) (b:ABlk) (hl:look id=some b) (hoff:off+0≤b.cells.length):
  app look e sz by_ zs m (.sl id off sz 0 0 true) (.lst l.length (encs E l) ex)=some (.sl m 0 sz l.length l.length false,[(m,some ⟨encs E l,e⟩)]):=by
 subst hs
 have hp:=E.pos
 have hlen:0<l.length:=List.length_pos_iff.2 h0
 have c1:cellsOf look E.size (.lst l.length (encs E l) ex)=some (l.length,encs E l):=by
  simp only [cellsOf,encs_length,Nat.beq_refl,cond_true]
 have c2:cellsOf look E.size (.sl id off E.size 0 0 true)=some (0,[]):=by
  have:Nat.ble (off+0) b.cells.length=true:=Nat.ble_eq_true_of_le hoff
  simp only [cellsOf,hl,Nat.zero_mul,this,Nat.beq_refl,Bool.true_or,Bool.and_self,cond_true,Nat.zero_mul,List.take_zero]
 have t1:Nat.beq l.length 0=false:=by
  cases h:Nat.beq l.length 0 with
  |false=>rfl
  |true=>have:=Nat.eq_of_beq_eq_true h;omega
 have t2:Nat.ble (l.length*by_) 140737488355328=true:=Nat.ble_eq_true_of_le hb
 have t3:Nat.ble l.length 4611686018427387904=true:=Nat.ble_eq_true_of_le (by omega)
 have t4:Nat.beq zs.length E.size=true:=by rw [hz];exact Nat.beq_refl _
 have t5:Nat.ble 1 E.size=true:=Nat.ble_eq_true_of_le hp
 have t6:Nat.beq (encs E l).length (l.length*E.size)=true:=by rw [encs_length];exact Nat.beq_refl _
 have t7:Nat.beq ([]:List AV).length (0*E.size)=true:=by simp
 have t8:Nat.ble l.length 0=false:=by
  cases h:Nat.ble l.length 0 with
  |false=>rfl
  |true=>have:=Nat.le_of_ble_eq_true h;omega
 simp only [app,c1,c2,t1,cond_false,Nat.zero_add,t2,t3,t4,t5,t6,t7,t8,encs_cell,Bool.true_or,Bool.and_self,cond_true,Nat.zero_add,List.nil_append]
/- ends of a run that hand back a number, or a boolean -/
end
end Go.Proofs.YtlenkbgeomojnaaGreatDoor
