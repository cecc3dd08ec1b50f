/- Parts PY, ShF, ShB. -/
import Derived.Test.YtkdodbfnocdkdaaGreatDoorPD
import Derived.Test.YtkdodbfnocdkdaaGreatDoorX1Ea
set_option linter.unusedVariables false
set_option linter.unusedSimpArgs false
namespace Go.Proofs.YtkdodbfnocdkdaaGreatDoor
open Go.RowKit
def Ti (P:Program) (K:Kq) (sp:Fg):Nat→Fg
 |0,_,_,_,_=>none
 |k+1,f,args,m,nx=>match sp f args m nx with
  |some r=>some r
  |none=>match P.funcs[f]? with
   |some fn=>match fn.body with
    |some c=>bif fn.name== "runtime.NumGoroutine" ||Nat.blt fn.ntmps args.length then none else
      match Fh K (Jo P K (Ti P K sp k) fn.ntmps) k c ⟨Eu args 0,m,nx⟩ with
      |some (.normal,s)=>(Fw P fn s).map (·,s.m,s.nx)
      |some (.ret,s)=>(Fw P fn s).map (·,s.m,s.nx)
      |_=>none
    |none=>none
   |none=>none
section
variable {P:Program} {K:Kq} {sp:Fg}
theorem Mk (hm:P.follows .mixedOrders=true) (hsp:Gj P K.gl sp):∀k,Gj P K.gl (Ti P K sp k)
 |0,f,args,m,nx,v,m',nx',h=>by simp [Ti] at h
 |k+1,f,args,m,nx,v,m',nx',h=>by
  have ih:=Mk hm hsp k
  unfold Ti at h
  split at h
  ·rename_i r hs
   simp only [Option.some.injEq] at h
   subst h
   exact hsp _ _ _ _ _ _ _ hs
  split at h
  ·rename_i fn hf
   split at h
   ·rename_i code hb
    cases hq:(fn.name== "runtime.NumGoroutine" ||Nat.blt fn.ntmps args.length) with
    |true=>rw [hq] at h;simp at h
    |false=>
     rw [hq] at h
     simp only [cond_false] at h
     simp only [Bool.or_eq_false_iff] at hq
     have hlen:args.length≤fn.ntmps:=by
      rcases Nat.lt_or_ge fn.ntmps args.length with h'|h'
      ·have:Nat.blt fn.ntmps args.length=true:=Nat.ble_eq_true_of_le h'
       rw [this] at hq;exact absurd hq.2 (by simp)
      ·exact h'
     refine ⟨⟨fn,code,hf,hb,hq.1⟩,fun B c vals g gl hM ha hr=> ?_⟩
     have key:∀x s,(x=A1.normal∨x=A1.ret)→Fh K (Jo P K (Ti P K sp k) fn.ntmps) k code ⟨Eu args 0,m,nx⟩=some (x,s)→(Fw P fn s).map (·,s.m,s.nx)=some (v,m',nx')→Calls P f vals.toArray c.w (Hm B c v m' nx'):=by
      intro x s hx hc hres
      obtain ⟨v0,h1,h2⟩:=Option.map_eq_some_iff.1 hres
      simp only [Prod.mk.injEq] at h2
      obtain ⟨rfl,rfl,rfl⟩:=h2
      have tri:Ff P K fn.ntmps nx code ⟨Eu args 0,m,nx⟩ (fun y t=>(y=.normal∨y=.ret)∧∃v,Fw P fn t=some v∧(v=v0∧t.m=s.m∧t.nx=s.nx)):=
       (Hb hm ih code _ x s hc).mono fun y t ⟨e1,e2⟩=>by subst e1;subst e2;exact ⟨hx,v0,h1,rfl,rfl,rfl⟩
      refine (Lt (R:=fun v m' nx'=>v=v0∧m'=s.m∧nx'=s.nx) hf hb hlen tri g gl hM ha hr).mono ?_
      rintro e w' ⟨v,m',nx',⟨rfl,rfl,rfl⟩,hp⟩
      exact hp
     split at h
     ·rename_i s hc;exact key .normal s (.inl rfl) hc h
     ·rename_i s hc;exact key .ret s (.inr rfl) hc h
     ·cases h
   ·cases h
  ·cases h
def Uk (P:Program) (K:Kq) (sp:Fg) (k:Nat) (f:FuncId):Option Bool:=
 match Ti P K sp k f [] [] 0 with
 |some (.sc (.bool b),_,_)=>some b
 |_=>none
theorem V2 (hm:P.follows .mixedOrders=true) (hsp:Gj P K.gl sp) {k:Nat} {f:FuncId} {b:Bool} (h:Uk P K sp k f=some b):Ci P K.gl f [] (.sc (.bool b)):=by
 unfold Uk at h
 split at h
 ·rename_i b' m nx he
  simp only [Option.some.injEq] at h
  subst h
  have hpc:Gz (Ti P K sp k) (fun _=>none) f []=some (.sc (.bool b'),[]):=by
   unfold Gz
   simp only [Bk,cond_true,he,freeze,clean]
  refine ⟨rfl,rfl,⟨((Mk (K:=K) hm hsp k) f [] [] 0 _ m nx he).1,fun B c vals g gl _ hr=> ?_⟩⟩
  exact (Ko (Mk (K:=K) hm hsp k) g gl (look:=fun _=>none) (fun _ _ h=>by cases h) hr hpc).2.2
 ·cases h
end
theorem Ga {P:Program} {K:Kq} {f:FuncId} {args:List AV} {v:AV} {m:List (Nat×Option Be)} {nx:Nat} (h:Ci P K.gl f args v):E8 P f∧∀(B:Nat) (c:Cx) (vals:List Value),Good B c→Cw K.gl c→(∀id,c.M id=Al m id)→(∀id,c.al id→id<nx)→Bm c args vals→Calls P f vals.toArray c.w (Hm B c v m nx):=by
 obtain ⟨-,-,hpl,hp⟩:=h
 refine ⟨hpl,fun B c vals g gl hM ha hr=>(hp B c vals g gl (fun _ _ h=>by cases h) hr).mono ?_⟩
 rintro e w' ⟨v',c',k1,k2,k3,k4,k5,k6,k7⟩
 exact ⟨v',c',k1,k2,k3,k4,k5,fun id=>(k6 id).trans (hM id),fun id hid=>ha id ((k7 id).1 hid)⟩
end Go.Proofs.YtkdodbfnocdkdaaGreatDoor
set_option linter.unusedVariables false
set_option linter.unusedSimpArgs false
namespace Go.Proofs.YtkdodbfnocdkdaaGreatDoor
def Yz:List AV→Option (List Ab)
 |[]=>some []
 |.sc (.int .i64 a)::.sc (.int .i64 b)::.sc (.int .i64 c)::.sc (.int .i64 d)::.sc (.int .i64 e)::.sc (.int .i64 f)::r=>match Yz r with
  |some l=>some (⟨a,b,c,d,e,f⟩::l)
  |none=>none
 |_=>none
theorem Zl:∀{cs:List AV} {l:List Ab},Yz cs=some l→cs=A0 Ab.E l:=by
 intro cs
 induction cs using Yz.induct with
 |case1=>intro l h;cases h;rfl
 |case2 a b c d e f r l' hr ih=>
  intro l h
  simp only [Yz,hr] at h
  cases h
  rw [ih hr];rfl
 |case3 a b c d e f r hr ih=>intro l h;simp only [Yz,hr] at h;cases h
 |case4 cs h1 h2=>
  intro l h
  unfold Yz at h
  split at h
  ·exact absurd rfl h1
  ·rename_i a b c d e f r
   exact absurd rfl (h2 a b c d e f r)
  ·cases h
def Ao1 (m:List (Nat×Option Be)) (nx id n:Nat) (i:Int) (wid k:Nat):Option (AV×List (Nat×Option Be)×Nat):=
 match Al m id,Al m wid with
 |some b,some w=>bif Nat.beq b.ty 135 && Nat.beq w.ty 135 then
   (match Yz b.cells,Yz w.cells with
   |some l,some xs=>bif Nat.beq l.length n && Nat.beq xs.length k && !Nat.beq id wid && Nat.blt 0 l.length then
     (match jM 48 l i xs with
     |some y=>some (Bh Ab.E nx y,Ad m [(nx,Cn Ab.E 135 y),(wid,none),(id,none)],nx+64)
     |none=>none) else none
   |_,_=>none) else none
 |_,_=>none
def spI:Fg:=fun f args m nx=>match args with
 |[.sl id 0 6 n n' false,.sc (.int .i64 i),.sl wid 0 6 k k' true]=>bif Nat.beq f 194 && Nat.beq n n' && Nat.beq k k' then Ao1 m nx id n i wid k else none
 |_=>none
theorem Ajc:Gj Tryz.prog KF.gl spI:=by
 intro f args m nx v m' nx' h
 unfold spI at h
 split at h
 ·rename_i id n n' i wid k k'
  cases h0:(Nat.beq f 194 && Nat.beq n n' && Nat.beq k k') with
  |false=>rw [h0] at h;cases h
  |true=>
   rw [h0,cond_true] at h
   simp only [Bool.and_eq_true] at h0
   have q1:=Nat.eq_of_beq_eq_true h0.1.1
   have q2:=Nat.eq_of_beq_eq_true h0.1.2
   have q3:=Nat.eq_of_beq_eq_true h0.2
   subst q1;subst q2;subst q3
   unfold Ao1 at h
   split at h
   ·rename_i b w hb hw
    cases h1:(Nat.beq b.ty 135 && Nat.beq w.ty 135) with
    |false=>rw [h1] at h;cases h
    |true=>
     rw [h1,cond_true] at h
     simp only [Bool.and_eq_true] at h1
     have t1:=Nat.eq_of_beq_eq_true h1.1
     have t2:=Nat.eq_of_beq_eq_true h1.2
     split at h
     ·rename_i l xs hl hx
      cases h2:(Nat.beq l.length n && Nat.beq xs.length k && !Nat.beq id wid && Nat.blt 0 l.length) with
      |false=>rw [h2] at h;cases h
      |true=>
       rw [h2,cond_true] at h
       simp only [Bool.and_eq_true,Bool.not_eq_true'] at h2
       have l1:=Nat.eq_of_beq_eq_true h2.1.1.1
       have l2:=Nat.eq_of_beq_eq_true h2.1.1.2
       have l3:id≠wid:=Nat.ne_of_beq_eq_false h2.1.2
       have l4:l≠[]:=by
        have:=Nat.le_of_ble_eq_true h2.2
        rintro rfl
        simp at this
       split at h
       ·rename_i y hy
        cases h
        have hb':Al m id=Cn Ab.E 135 l:=by
         rw [C7 l4,hb,← Zl hl,← t1]
        have hw':Al m wid=some ⟨A0 Ab.E xs,135⟩:=by
         rw [hw,← Zl hx,← t2]
        have key:=Ea (k:=fun v m'=>v=Bh Ab.E nx y∧m'=Ad m [(nx,Cn Ab.E 135 y),(wid,none),(id,none)]) (wG (n:=nx) (look:=Al m) (l0:=l) (xs0:=xs) rfl hb' rfl hw' l3 hy) ⟨rfl,rfl⟩
        rw [Fj l4] at key
        have ea:([.sl id 0 Ab.E.size l.length l.length false,Aa i,Hk Ab.E wid xs]:List AV)=[.sl id 0 6 n n false,.sc (.int .i64 i),.sl wid 0 6 k k true]:=by
         unfold Hk
         rw [l1,l2]
         rfl
        rw [ea] at key
        refine ⟨key.1,fun B c vals g hgl hM ha hr=>(key.2 B c vals g hgl hM ha hr).mono ?_⟩
        rintro e w' ⟨v,m',⟨rfl,rfl⟩,hp⟩
        exact hp
       ·cases h
     ·cases h
   ·cases h
 ·cases h
theorem Kb {α:Type} {b:Bool} {x:Option α} {y:α} (h:(bif b then x else none)=some y):b=true∧x=some y:=by
 cases b
 ·cases h
 ·exact ⟨rfl,h⟩
def Adf:AV→Option (List Ab)
 |.Ec n cs false=>match Yz cs with
  |some l=>bif Nat.beq l.length n then some l else none
  |none=>none
 |_=>none
theorem kY {a:AV} {l:List Ab} (h:Adf a=some l):a=Ar Ab.E l:=by
 unfold Adf at h
 split at h
 ·rename_i n cs
  split at h
  ·rename_i l' hl
   obtain ⟨h1,h2⟩:=Kb h
   cases h2
   rw [Zl hl,← Nat.eq_of_beq_eq_true h1]
  ·cases h
 ·cases h
def cf0:Fg:=fun f args m nx=>match args with
 |[a,b,.agg [.sc (.int .i64 x),.sc (.int .i64 y)]]=>bif Nat.beq f 28 then (Adf a).bind fun l=>(Adf b).bind fun k=>(w9 1000 l k (⟨x,y⟩:Db)).map fun z=>(.Bn [Aa z.1,Aa z.2],m,nx) else none
 |_=>none
theorem sD:Gj Tryz.prog KF.gl cf0:=by
 intro f args m nx v m' nx' h
 unfold cf0 at h
 split at h
 ·obtain ⟨hf,h1⟩:=Kb h
  obtain ⟨l,hl,h2⟩:=Option.bind_eq_some_iff.1 h1
  obtain ⟨k,hk,h3⟩:=Option.bind_eq_some_iff.1 h2
  obtain ⟨z,hz,e⟩:=Option.map_eq_some_iff.1 h3
  cases e
  rw [Nat.eq_of_beq_eq_true hf,kY hl,kY hk]
  exact Ga (K:=KF) (Ao2 hz)
 ·cases h
def Ar8:Gn:=⟨60,60,60,60,120,60,60,60,180,120,90,60,240,180,120,120⟩
def ints:List AV→Option (List Int)
 |[]=>some []
 |.sc (.int .i64 z)::r=>match ints r with
  |some l=>some (z::l)
  |none=>none
 |_=>none
theorem lU:∀{cs:List AV} {l:List Int},ints cs=some l→cs=l.map Aa
 |[],l,h=>by cases h;rfl
 |c::r,l,h=>by
  unfold ints at h
  split at h
  ·rename_i e;cases e
  ·rename_i z r' e
   cases e
   split at h
   ·rename_i k hk
    cases h
    rw [lU hk];rfl
   ·cases h
  ·cases h
def Asu:List Int:=[60,60,60,60,120,60,60,60,180,120,90,60,240,180,120,120]
theorem tM:g96 100 Ar8=some 0:=by decide+kernel
def wk:Fg:=fun f args m nx=>match args with
 |[.agg cs]=>bif Nat.beq f 96 then (match ints cs with
  |some l=>bif l==Asu then some (Aa 0,m,nx) else none
  |none=>none) else none
 |_=>none
theorem Amq:Gj Tryz.prog KF.gl wk:=by
 intro f args m nx v m' nx' h
 unfold wk at h
 split at h
 ·obtain ⟨hf,h1⟩:=Kb h
  split at h1
  ·rename_i l hl
   obtain ⟨h2,h3⟩:=Kb h1
   cases h3
   rw [Nat.eq_of_beq_eq_true hf,lU hl,eq_of_beq h2]
   exact Ga (K:=KF) (Ar5 tM)
  ·cases h1
 ·cases h
def spT:Fg:=fun f args m nx=>
 bif Nat.beq f 96 then wk f args m nx else
 bif Nat.beq f 28 then (match Gz cf0 (Al m) f args with
  |some (v,[])=>some (v,m,nx)
  |_=>none) else spI f args m nx
theorem Y0:Gj Tryz.prog KF.gl spT:=by
 intro f args m nx v m' nx' h
 unfold spT at h
 cases hw:Nat.beq f 96 with
 |true=>rw [hw,cond_true] at h;exact Amq _ _ _ _ _ _ _ h
 |false=>
 rw [hw,cond_false] at h
 cases hf:Nat.beq f 28 with
 |false=>rw [hf,cond_false] at h;exact Ajc _ _ _ _ _ _ _ h
 |true=>
  rw [hf,cond_true] at h
  split at h
  ·rename_i v0 hp
   simp only [Option.some.injEq,Prod.mk.injEq] at h
   obtain ⟨rfl,rfl,rfl⟩:=h
   obtain ⟨-,hpl⟩:=L3 sD hp
   refine ⟨hpl,fun B c vals g hgl hM ha hr=> ?_⟩
   refine (Ko sD g hgl (look:=Al m) (fun id b hb=>by rw [hM];exact hb) hr hp).2.2.mono ?_
   rintro e w' ⟨v',c',k1,k2,k3,k4,k5,k6,k7⟩
   exact ⟨v',c',k1,k2,k3,k4,k5,fun id=>(k6 id).trans (hM id),fun id hid=>ha id ((k7 id).1 hid)⟩
  ·cases h
def KS:Kq:=⟨fun f=>Nat.beq f 25,KF.gl⟩
end Go.Proofs.YtkdodbfnocdkdaaGreatDoor
set_option linter.unusedVariables false
set_option linter.unusedSimpArgs false
namespace Go.Proofs.YtkdodbfnocdkdaaGreatDoor
def Akb:Value→Value→Bool
 |.int k z,.int k' z'=>decide (k=k') && decide (z=z')
 |.string s,.string s'=>decide (s=s')
 |.bool b,.bool b'=>b==b'
 |_,_=>false
theorem Acg {a b:Value} (h:Akb a b=true):a=b:=by
 unfold Akb at h
 split at h
 ·simp at h;rw [h.1,h.2]
 ·simp at h;rw [h]
 ·rw [eq_of_beq h]
 ·cases h
mutual
def Pr:AV→AV→Bool
 |.sc v,.sc v'=>Akb v v'
 |.agg l,.agg l'=>Ng l l'
 |.Bn l,.Bn l'=>Ng l l'
 |.Ec n l ex,.Ec n' l' ex'=>Nat.beq n n' && Ng l l' && (ex==ex')
 |_,_=>false
def Ng:List AV→List AV→Bool
 |[],[]=>true
 |x::xs,y::ys=>Pr x y && Ng xs ys
 |_,_=>false
end
mutual
theorem kT:∀(a b:AV),Pr a b=true→a=b
 |.sc v,b,h=>by
  cases b<;>simp only [Pr,Bool.false_eq_true] at h
  rw [Acg h]
 |.agg l,b,h=>by
  cases b<;>simp only [Pr,Bool.false_eq_true] at h
  rw [Jm _ _ h]
 |.Bn l,b,h=>by
  cases b<;>simp only [Pr,Bool.false_eq_true] at h
  rw [Jm _ _ h]
 |.Ec n l ex,b,h=>by
  cases b<;>simp only [Pr,Bool.false_eq_true,Bool.and_eq_true] at h
  obtain ⟨⟨h1,h2⟩,h3⟩:=h
  rw [Nat.eq_of_beq_eq_true h1,Jm _ _ h2,beq_iff_eq.1 h3]
 |.Es,b,h=>by simp [Pr] at h
 |.Lb,b,h=>by simp [Pr] at h
 |.ptr ..,b,h=>by simp [Pr] at h
 |.Cq ..,b,h=>by simp [Pr] at h
 |.Bg,b,h=>by simp [Pr] at h
 |.sl ..,b,h=>by simp [Pr] at h
 |.fn ..,b,h=>by simp [Pr] at h
 |.w8 _,b,h=>by simp [Pr] at h
theorem Jm:∀(a b:List AV),Ng a b=true→a=b
 |[],[],_=>rfl
 |x::xs,y::ys,h=>by
  simp only [Ng,Bool.and_eq_true] at h
  rw [kT _ _ h.1,Jm _ _ h.2]
 |[],_::_,h=>by simp [Ng] at h
 |_::_,[],h=>by simp [Ng] at h
end
def answers (P:Program) (K:Kq) (sp:Fg) (k:Nat) (f:FuncId) (args:List AV) (v:AV):Bool:=
 Bk args && clean v && (match Gz (Ti P K sp k) (fun _=>none) f args with
  |some (u,[])=>Pr u v
  |_=>false)
theorem I7 {P:Program} {K:Kq} {sp:Fg} (hm:P.follows .mixedOrders=true) (hsp:Gj P K.gl sp) {k:Nat} {f:FuncId} {args:List AV} {v:AV} (h:answers P K sp k f args v=true):Ci P K.gl f args v:=by
 unfold answers at h
 simp only [Bool.and_eq_true] at h
 obtain ⟨⟨h1,h2⟩,h3⟩:=h
 split at h3
 ·rename_i u hp
  rw [kT _ _ h3] at hp
  refine ⟨h1,h2,⟨(L3 (Mk (K:=K) hm hsp k) hp).2,fun B c vals g gl _ hr=> ?_⟩⟩
  exact (Ko (Mk (K:=K) hm hsp k) g gl (look:=fun _=>none) (fun _ _ h=>by cases h) hr hp).2.2
 ·cases h3
def s1:ByteArray:=⟨#[65,49]⟩
def Aal:AV:=Ar Ab.E [⟨0,0,0,9000,0,0⟩,⟨100,10000,0,9000,0,0⟩]
def Afb:AV:=.agg [An ⟨#[74,69,84]⟩,Aa 1,Aa 40000,Aa 50,Aa 40,Aa 50,Aa 300]
def Am6:List AV:=[Aal,.agg [An s1,Aa 0,Aa 9500,An ⟨#[]⟩],Aa 0,Afb,.agg [Aa 0,Aa 0]]
def Alg:AV:=.Bn [Ar Ab.E [⟨0,0,0,9000,0,0⟩,⟨10,1000,0,9500,0,0⟩,⟨100,10000,0,9500,0,0⟩],Aa 0]
def Am0:List (Int×Int):=[(0,10000),(0,8000),(2,115),(2,85),(1,1195),(1,853),(0,11000),(0,7000),(2,130),(2,70),(1,1366),(1,682),(0,12000),(0,6000),(2,145),(2,55),(1,1537),(1,511)]
def Af2:List AV:=[An s1,Aal,Aa 0,Afb]
def Agf:AV:=.Bn [.Ec 18 (Am0.flatMap fun p=>[An s1,Aa p.1,Aa p.2,An ⟨#[]⟩]) false,Aa 0]
def rT:List AV:=[Aal,.agg [Aa 0,Aa 0],Aa 5]
def vB:AV:=.Bn [Ar Ab.E [⟨5,0,0,9000,0,0⟩,⟨105,10000,0,9000,0,0⟩],Aa 0]
end Go.Proofs.YtkdodbfnocdkdaaGreatDoor
