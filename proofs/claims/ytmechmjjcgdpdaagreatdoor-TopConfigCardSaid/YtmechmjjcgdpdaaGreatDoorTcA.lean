/- A part. -/
import Derived.Test.YtmechmjjcgdpdaaGreatDoorTcB
import Derived.Test.YtmechmjjcgdpdaaGreatDoorMath2
import Derived.Test.YtmechmjjcgdpdaaGreatDoorTab9
set_option linter.unusedVariables false
set_option linter.unusedSimpArgs false
set_option maxHeartbeats 4000000
namespace Go.Proofs.YtmechmjjcgdpdaaGreatDoor
def POk (p:TP):Prop:= -1000000≤p.X∧p.X≤1000000∧-1000000≤p.Y∧p.Y≤1000000
theorem Uc (n:Nat) (p:TP):(iO n p=some 0∧POk p)∨(iO n p=some 4∧¬POk p):=by
 unfold iO POk
 simp only [cond_eq_ite,decide_eq_true_eq]
 repeat' split
 all_goals first|(right;exact ⟨rfl,by omega⟩)|(left;exact ⟨rfl,by omega⟩)
theorem Fw {α:Type} {b:Bool} {x y:Option α} (hx:∃r,x=some r) (hy:∃r,y=some r):∃r,(bif b then x else y)=some r:=by cases b<;>assumption
theorem Dk {α β:Type} {x:Option α} {f:α→Option β} (hx:∃a,x=some a) (hf:∀a,∃r,f a=some r):∃r,x.bind f=some r:=by
 obtain ⟨a,rfl⟩:=hx
 exact hf a
theorem Er {α:Type} {l:List α} {i:Nat} (h:i<l.length):∃x,Cd l (i:Int)=some x:=⟨_,Bv (List.getElem?_eq_getElem h)⟩
theorem F1 {ρ:Type} {S:Int→Option (Int⊕ρ)} (len:Nat) (h:∀i:Nat,i<len→S (i:Int)=some (.inl ((i+1:Nat):Int))∨∃r,S (i:Int)=some (.inr r)) (h0:∀i:Nat,len≤i→∃r,S (i:Int)=some (.inr r)) (n start:Nat) (hn:len-start<n):∃r,A7 S n (start:Int)=some r:=by
 obtain ⟨r,hr,-⟩:=Cb (S:=S) (fun x=>∃i:Nat,x=(i:Int)) (fun _=>True) (fun x=>len-x.toNat) (by
  rintro _ ⟨i,rfl⟩
  rcases Nat.lt_or_ge i len with hlt|hge
  ·rcases h i hlt with k|⟨r,k⟩
   ·exact .inl ⟨_,k,⟨i+1,rfl⟩,by simp;omega⟩
   ·exact .inr ⟨r,k,trivial⟩
  ·obtain ⟨r,k⟩:=h0 i hge
   exact .inr ⟨r,k,trivial⟩) n (start:Int) ⟨start,rfl⟩ (by simpa using hn)
 exact ⟨r,hr⟩
theorem wS2 {i:Nat} (h:i<1000000):IntKind.wrap .i64 ((i:Int)+2)=((i+2:Nat):Int):=wrap64 (by omega) (by omega)
theorem j5 {a b:Nat} (hb:0<b):Nh (a:Int) (b:Int)=some ((a % b:Nat):Int):=by
 unfold Nh
 rw [if_neg (by omega)]
 congr 1
theorem lX (n:Nat) (l:List TP) (i:Nat) (h:0<l.length) (hi:i<1000000):∃p,N9 n l (i:Int)=some p∧p∈l:=by
 unfold N9
 rw [wS (by omega),j5 h,Option.bind_some]
 have hlt:(i+1) % l.length<l.length:=Nat.mod_lt _ h
 rw [Bv (List.getElem?_eq_getElem hlt)]
 exact ⟨_,rfl,List.getElem_mem hlt⟩
theorem Qf (n:Nat) (a b:TP):Z2 n a b=some ⟨IntKind.wrap .i64 (a.X-b.X),IntKind.wrap .i64 (a.Y-b.Y)⟩:=rfl
theorem Ir (n:Nat) (a b c:TP):∃z,R6 n a b c=some z:=by
 unfold R6
 exact Dk ⟨_,rfl⟩ fun _=>Dk ⟨_,rfl⟩ fun _=>Dk ⟨_,rfl⟩ fun _=>Fw ⟨_,rfl⟩ (Fw ⟨_,rfl⟩ ⟨_,rfl⟩)
theorem fV (n:Nat) (a b c:TP):∃z,kF n a b c=some z:=by
 unfold kF
 exact Fw (Fw (Fw ⟨_,rfl⟩ ⟨_,rfl⟩) ⟨_,rfl⟩) ⟨_,rfl⟩
theorem Oc (n:Nat) (a b c:TP):∃z,Py n a b c=some z:=by
 unfold Py
 exact Dk (Ir n _ _ _) fun _=>Fw (Dk (fV n _ _ _) fun _=>⟨_,rfl⟩) ⟨_,rfl⟩
theorem S9 (n:Nat) (a b c d:TP):∃z,iG n a b c d=some z:=by
 unfold iG
 exact Dk (Ir n _ _ _) fun _=>Dk (Ir n _ _ _) fun _=>Fw (Dk (Ir n _ _ _) fun _=>Dk (Ir n _ _ _) fun _=>⟨_,rfl⟩) ⟨_,rfl⟩
theorem iE (n:Nat) (a b c d:TP):∃z,rP n a b c d=some z:=by
 unfold rP
 exact Dk (S9 n _ _ _ _) fun _=>Fw ⟨_,rfl⟩ (Dk (Oc n _ _ _) fun _=>Fw ⟨_,rfl⟩ (Dk (Oc n _ _ _) fun _=>Fw ⟨_,rfl⟩ (Dk (Oc n _ _ _) fun _=>Fw ⟨_,rfl⟩ (Dk (Oc n _ _ _) fun _=>⟨_,rfl⟩))))
theorem I7 (n:Nat) (l:List TP) (i:Nat) (h:i<l.length) (hl:l.length≤1000):∃p,N9 n l (i:Int)=some p:=by
 obtain ⟨p,hp,-⟩:=lX n l i (by omega) (by omega)
 exact ⟨p,hp⟩
theorem W0 (n:Nat) (l:List TP) (q:TP) (hl:l.length≤1000) (hn:l.length<n):∃z,j0 n l q=some z:=by
 unfold j0
 obtain ⟨r,hr,-⟩:=Cb (S:=fun y:Int×Int=>Ja n l (0) (l.length:Int) q.X q.Y y.1 y.2) (fun y=>∃i:Nat,y.2=(i:Int)∧i≤l.length) (fun _=>True) (fun y=>l.length-y.2.toNat) (by
  rintro ⟨v,_⟩ ⟨i,rfl,hi⟩
  rcases Nat.lt_or_ge i l.length with hlt|hge
  ·obtain ⟨x,hx⟩:=Er hlt
   obtain ⟨y,hy⟩:=I7 n l i hlt hl
   obtain ⟨b,hb⟩:=Oc n x y (⟨q.X,q.Y⟩:TP)
   obtain ⟨t,ht⟩:=Ir n x y (⟨q.X,q.Y⟩:TP)
   have key:(∃w,Ja n l (0) (l.length:Int) q.X q.Y v (i:Int)=some (.inl (w,((i+1:Nat):Int))))∨∃r,Ja n l (0) (l.length:Int) q.X q.Y v (i:Int)=some (.inr r):=by
    unfold Ja
    rw [decide_eq_true (show (i:Int)<_ by omega),cond_true,hx,Option.bind_some,hy,Option.bind_some,hb,Option.bind_some,ht,wS (by omega)]
    simp only [Option.bind_some]
    cases b with
    |true=>exact .inr ⟨_,rfl⟩
    |false=>
     left
     rw [cond_false]
     cases (!((decide (x.Y>q.Y))==(decide (y.Y>q.Y))))<;>cases decide (y.Y>x.Y)<;>cases decide (t>0)<;>cases decide (y.Y<x.Y)<;>cases decide (t<0)<;>exact ⟨_,rfl⟩
   rcases key with ⟨w,k⟩|⟨r,k⟩
   ·exact .inl ⟨_,k,⟨i+1,rfl,hlt⟩,by simp;omega⟩
   ·exact .inr ⟨r,k,trivial⟩
  ·refine .inr ⟨v,?_,trivial⟩
   show Ja n l (0) (l.length:Int) q.X q.Y v (i:Int)=_
   unfold Ja
   rw [decide_eq_false (show ¬(i:Int)<_ by omega)];rfl) n ((-1),(0)) ⟨0,rfl,Nat.zero_le _⟩ (by show l.length-(0:Int).toNat<n;omega)
 exact ⟨r,hr⟩
theorem qA (n:Nat) (l:List TP) (hl:l.length≤1000) (hn:l.length<n):∃z,pK n l=some z:=by
 unfold pK
 obtain ⟨r,hr,-⟩:=Cb (S:=fun y:Int×Int=>K8 n l (0) (l.length:Int) y.1 y.2) (fun y=>∃i:Nat,y.2=(i:Int)∧i≤l.length) (fun _=>True) (fun y=>l.length-y.2.toNat) (by
  rintro ⟨v,_⟩ ⟨i,rfl,hi⟩
  show (∃y,K8 n l (0) (l.length:Int) v (i:Int)=some (.inl y)∧_∧_)∨∃r,K8 n l (0) (l.length:Int) v (i:Int)=some (.inr r)∧_
  unfold K8
  rcases Nat.lt_or_ge i l.length with hlt|hge
  ·obtain ⟨x,hx⟩:=Er hlt
   obtain ⟨y,hy⟩:=I7 n l i hlt hl
   rw [decide_eq_true (show (i:Int)<_ by omega),cond_true,hx,Option.bind_some,hy,Option.bind_some,wS (by omega)]
   exact .inl ⟨_,rfl,⟨i+1,rfl,hlt⟩,by show l.length-((i+1:Nat):Int).toNat<l.length-(i:Int).toNat;omega⟩
  ·rw [decide_eq_false (show ¬(i:Int)<_ by omega),cond_false]
   exact .inr ⟨_,rfl,trivial⟩) n ((0),(0)) ⟨0,rfl,Nat.zero_le _⟩ (by show l.length-(0:Int).toNat<n;omega)
 exact ⟨r,hr⟩
theorem qQ (n:Nat) (l:List TP) (hl:l.length≤16) (h3:3≤l.length) (hn:40<n):∃z,A7 (fun y:Int=>Jy n l 0 (l.length:Int) (l.length:Int) y) n 0=some z:=by
 refine F1 l.length (fun i hi=> ?_) (fun i hi=> ?_) n 0 (by omega)
 ·obtain ⟨x,hx⟩:=Er hi
  obtain ⟨y,hy⟩:=I7 n l i hi (by omega)
  have hm:(i+2) % l.length<l.length:=Nat.mod_lt _ (by omega)
  obtain ⟨z,hz⟩:=Er hm
  obtain ⟨t,ht⟩:=Ir n x y z
  have inner:∃r,A7 (fun y:Int=>F4 n l 0 (l.length:Int) (i:Int) (l.length:Int) y) n ((i+2:Nat):Int)=some r∧(r=.inl ((i+1:Nat):Int)∨∃q,r=.inr q):=by
   obtain ⟨r,hr,hq⟩:=Cb (S:=fun y:Int=>F4 n l 0 (l.length:Int) (i:Int) (l.length:Int) y) (fun y=>∃k:Nat,y=(k:Int)∧k≤l.length+2) (fun r=>r=.inl ((i+1:Nat):Int)∨∃q,r=.inr q) (fun y=>l.length+2-y.toNat) (by
    rintro _ ⟨k,rfl,hk⟩
    show (∃y,F4 n l 0 (l.length:Int) (i:Int) (l.length:Int) (k:Int)=some (.inl y)∧_∧_)∨∃r,F4 n l 0 (l.length:Int) (i:Int) (l.length:Int) (k:Int)=some (.inr r)∧_
    unfold F4
    rcases Nat.lt_or_ge k l.length with hlt|hge
    ·obtain ⟨x2,hx2⟩:=Er hlt
     obtain ⟨y2,hy2⟩:=I7 n l k hlt (by omega)
     obtain ⟨b,hb⟩:=iE n x y x2 y2
     rw [decide_eq_true (show (k:Int)<_ by omega),cond_true,wS (by omega),j5 (by omega),Option.bind_some,hx,hy,hx2,hy2]
     simp only [Option.bind_some]
     rw [hb,Option.bind_some]
     cases (((((k+1) % l.length:Nat)):Int) !=(i:Int))<;>cases b
     all_goals first
      |exact .inl ⟨_,rfl,⟨k+1,rfl,by omega⟩,by show l.length+2-((k+1:Nat):Int).toNat<l.length+2-(k:Int).toNat;omega⟩
      |exact .inr ⟨_,rfl,.inr ⟨_,rfl⟩⟩
    ·rw [decide_eq_false (show ¬(k:Int)<_ by omega),cond_false,wS (by omega)]
     exact .inr ⟨_,rfl,.inl rfl⟩) n ((i+2:Nat):Int) ⟨i+2,rfl,by omega⟩ (by show l.length+2-((i+2:Nat):Int).toNat<n;omega)
   exact ⟨r,hr,hq⟩
  obtain ⟨r,hr,hq⟩:=inner
  show Jy n l 0 (l.length:Int) (l.length:Int) (i:Int)=_∨_
  unfold Jy
  rw [decide_eq_true (show (i:Int)<_ by omega),cond_true,hx,Option.bind_some,hy,Option.bind_some,wS2 (by omega),j5 (by omega),Option.bind_some,hz,Option.bind_some,ht,Option.bind_some,hr]
  cases (t==0) with
  |true=>exact .inr ⟨_,rfl⟩
  |false=>
   rw [cond_false]
   rcases hq with rfl|⟨q,rfl⟩
   ·exact .inl rfl
   ·exact .inr ⟨_,rfl⟩
 ·obtain ⟨z,hz⟩:=qA n l (by omega) (by omega)
  show ∃r,Jy n l 0 (l.length:Int) (l.length:Int) (i:Int)=_
  unfold Jy
  rw [decide_eq_false (show ¬(i:Int)<_ by omega),cond_false,hz,Option.bind_some]
  cases decide (z≤0)<;>exact ⟨_,rfl⟩
structure aP (l:List TP):Prop where
 lo:3≤l.length
 hi:l.length≤16
 pts:∀p∈l,POk p
theorem Oi (n:Nat) (l:List TP) (hn:40<n):∃z,cE n l=some z∧(z=0→aP l):=by
 unfold cE
 by_cases h1:(l.length:Int)>16
 ·rw [decide_eq_true h1,cond_true];exact ⟨2,rfl,fun h=>by cases h⟩
 by_cases h2:(l.length:Int)<3
 ·rw [decide_eq_false h1,cond_false,decide_eq_true h2,cond_true];exact ⟨3,rfl,fun h=>by cases h⟩
 rw [decide_eq_false h1,decide_eq_false h2]
 simp only [cond_false]
 obtain ⟨z,hz⟩:=qQ n l (by omega) (by omega) hn
 obtain ⟨r,hr,hq⟩:=Rh (S:=fun y:Int=>Jh n l 0 (l.length:Int) y) l (fun _ p=>POk p) (fun r=>r≠0) z (fun i p hp=>by
  have:=Dt hp
  show (Jh n l 0 (l.length:Int) (i:Int)=_∧_)∨∃r,Jh n l 0 (l.length:Int) (i:Int)=some (.inr r)∧r≠0
  unfold Jh
  rw [decide_eq_true (show (i:Int)<(l.length:Int) by omega),cond_true,Bv hp,Option.bind_some,wS (by omega)]
  rcases Uc n p with ⟨e,k⟩|⟨e,k⟩
  ·rw [e];exact .inl ⟨rfl,k⟩
  ·rw [e];exact .inr ⟨4,rfl,by decide⟩) (by
  show Jh n l 0 (l.length:Int) (l.length:Int)=_
  unfold Jh
  rw [decide_eq_false (Int.lt_irrefl _),cond_false,hz];rfl) n (by omega)
 refine ⟨r,hr,fun h0=> ?_⟩
 rcases hq with k|⟨-,k⟩
 ·exact absurd h0 k
 ·refine ⟨by omega,by omega,fun p hp=> ?_⟩
  obtain ⟨i,hi⟩:=List.getElem?_of_mem hp
  exact k i p hi
theorem Anl {a b:Int} (h:a*a=b*b) (s:(0≤a∧0≤b)∨(a≤0∧b≤0)):a=b:=by
 have h1:(a-b)*(a+b)=0:=by
  rw [Int.mul_add,Int.sub_mul,Int.sub_mul,Int.mul_comm b a];omega
 rcases Int.mul_eq_zero.1 h1 with k|k
 ·omega
 ·omega
def Seg (u v:TP):Prop:=u.X*v.Y=u.Y*v.X∧((0≤v.X∧v.X≤u.X)∨(u.X≤v.X∧v.X≤0))∧((0≤v.Y∧v.Y≤u.Y)∨(u.Y≤v.Y∧v.Y≤0))
def eR (v:TP):Int:=v.X*v.X+v.Y*v.Y
theorem Amp (a b c d:Int):(a*b)*(c*d)=(a*c)*(b*d):=by rw [Int.mul_assoc,Int.mul_left_comm b,← Int.mul_assoc]
theorem mM {a b v w:Int} (h:a*w=b*v):(a*a)*(v*v+w*w)=(v*v)*(a*a+b*b):=by
 have h2:(a*w)*(a*w)=(b*v)*(b*v):=by rw [h]
 have e1:(a*w)*(a*w)=(a*a)*(w*w):=Amp a w a w
 have e2:(b*v)*(b*v)=(v*v)*(b*b):=by rw [Amp,Int.mul_comm]
 rw [Int.mul_add,Int.mul_add,← e1,h2,e2,Int.mul_comm (a*a) (v*v)]
theorem Ab4 {u v w:TP} (hv:Seg u v) (hw:Seg u w) (h:eR v=eR w):v=w:=by
 obtain ⟨v1,v2,v3⟩:=hv
 obtain ⟨w1,w2,w3⟩:=hw
 unfold eR at h
 have key:∀{a b p q r s:Int},a*q=b*p→a*s=b*r→p*p+q*q=r*r+s*s→a≠0→((0≤p∧p≤a)∨(a≤p∧p≤0))→((0≤r∧r≤a)∨(a≤r∧r≤0))→p=r∧q=s:=by
  intro a b p q r s h1 h2 h3 ha hp hr
  have e1:=mM h1
  have e2:=mM h2
  rw [h3,e2] at e1
  have hs:a*a+b*b≠0:=by
   have q1:0<a*a:=by
    rcases Int.lt_or_gt_of_ne ha with k|k
    ·exact Int.mul_pos_of_neg_of_neg k k
    ·exact Int.mul_pos k k
   have q2:0≤b*b:=by
    rcases Int.le_total 0 b with k|k
    ·exact Int.mul_nonneg k k
    ·exact Int.mul_nonneg_of_nonpos_of_nonpos k k
   omega
  have e3:r*r=p*p:=Int.eq_of_mul_eq_mul_right hs e1
  have e4:r=p:=Anl e3 (by omega)
  refine ⟨e4.symm,?_⟩
  rw [e4,← h1] at h2
  exact (Int.eq_of_mul_eq_mul_left ha h2).symm
 by_cases hx:u.X=0
 ·by_cases hy:u.Y=0
  ·cases v;cases w;simp only at*
   congr 1<;>omega
  ·obtain ⟨k1,k2⟩:=key (a:=u.Y) (b:=u.X) (p:=v.Y) (q:=v.X) (r:=w.Y) (s:=w.X) v1.symm w1.symm (by omega) hy v3 w3
   cases v;cases w;simp only at*
   rw [k1,k2]
 ·obtain ⟨k1,k2⟩:=key (a:=u.X) (b:=u.Y) (p:=v.X) (q:=v.Y) (r:=w.X) (s:=w.Y) v1 w1 h hx v2 w2
  cases v;cases w;simp only at*
  rw [k1,k2]
def P2 (p:TP):Prop:= -2000000≤p.X∧p.X≤2000000∧-2000000≤p.Y∧p.Y≤2000000
theorem Yi {a b:Int} {M:Int} (ha: -M≤a∧a≤M) (hb: -M≤b∧b≤M) (hM:0≤M): -(M*M)≤a*b∧a*b≤M*M:=by
 have h1:0≤(M-a)*(M-b):=Int.mul_nonneg (by omega) (by omega)
 have h2:0≤(M+a)*(M+b):=Int.mul_nonneg (by omega) (by omega)
 have h3:0≤(M-a)*(M+b):=Int.mul_nonneg (by omega) (by omega)
 have h4:0≤(M+a)*(M-b):=Int.mul_nonneg (by omega) (by omega)
 rw [Int.sub_mul,Int.mul_sub,Int.mul_sub] at h1
 rw [Int.add_mul,Int.mul_add,Int.mul_add] at h2
 rw [Int.sub_mul,Int.mul_add,Int.mul_add] at h3
 rw [Int.add_mul,Int.mul_sub,Int.mul_sub] at h4
 rw [Int.mul_comm a M] at*
 constructor<;>omega
def Qz (a b:TP):TP:=⟨b.X-a.X,b.Y-a.Y⟩
theorem Akd (n:Nat) (a b c:TP) (ha:P2 a) (hb:P2 b) (hc:P2 c) (h:Py n a b c=some true):Seg (Qz a b) (Qz a c):=by
 obtain ⟨a1,a2,a3,a4⟩:=ha
 obtain ⟨b1,b2,b3,b4⟩:=hb
 obtain ⟨c1,c2,c3,c4⟩:=hc
 unfold Py R6 at h
 rw [Qf,Qf] at h
 simp only [Option.bind_some] at h
 have m1:=Yi (a:=b.X-a.X) (b:=c.Y-a.Y) (M:=4000000) (by omega) (by omega) (by decide)
 have m2:=Yi (a:=b.Y-a.Y) (b:=c.X-a.X) (M:=4000000) (by omega) (by omega) (by decide)
 unfold sI at h
 rw [wrap64 (z:=b.X-a.X) (by omega) (by omega),wrap64 (z:=c.Y-a.Y) (by omega) (by omega),wrap64 (z:=b.Y-a.Y) (by omega) (by omega),wrap64 (z:=c.X-a.X) (by omega) (by omega),wrap64 (z:=(b.X-a.X)*(c.Y-a.Y)) (by omega) (by omega),wrap64 (z:=(b.Y-a.Y)*(c.X-a.X)) (by omega) (by omega),wrap64 (by omega) (by omega)] at h
 simp only [Option.bind_some] at h
 by_cases z1:(b.X-a.X)*(c.Y-a.Y)-(b.Y-a.Y)*(c.X-a.X)>0
 ·rw [decide_eq_true z1] at h;simp at h
 by_cases z2:(b.X-a.X)*(c.Y-a.Y)-(b.Y-a.Y)*(c.X-a.X)<0
 ·rw [decide_eq_false z1,decide_eq_true z2] at h;simp at h
 rw [decide_eq_false z1,decide_eq_false z2] at h
 simp only [cond_false,Option.bind_some,show ((0:Int)==0)=true from rfl,cond_true] at h
 refine ⟨by show (b.X-a.X)*(c.Y-a.Y)=(b.Y-a.Y)*(c.X-a.X);omega,?_,?_⟩
 all_goals
  unfold kF at h
  simp only [cond_eq_ite,decide_eq_true_eq] at h
  show (0≤_ - _∧_)∨_
  unfold Qz
  simp only
  repeat' (split at h)
  all_goals simp only [Option.bind_some,Option.some.injEq,decide_eq_true_eq,Bool.false_eq_true] at h
  all_goals (try omega)
theorem cS (a b:TP):Seg (Qz a b) (Qz a a)∧Seg (Qz a b) (Qz a b):=by
 unfold Seg Qz
 simp only [Int.sub_self,Int.mul_zero]
 refine ⟨⟨trivial,?_,?_⟩,Int.mul_comm _ _,?_,?_⟩<;>omega
theorem Aef {a c d:TP} (h:Qz a c=Qz a d):c=d:=by
 unfold Qz at h
 cases c;cases d
 simp only [TP.mk.injEq] at h ⊢
 omega
theorem Ahe (n:Nat) (a x y:TP) (ha:P2 a) (hx:P2 x) (hy:P2 y):N6 n x y a.X a.Y=some (eR (Qz a x)-eR (Qz a y)):=by
 have sq:∀z,P2 z→dM n (⟨a.X,a.Y⟩:TP) z=some (eR (Qz a z))∧0≤eR (Qz a z)∧eR (Qz a z)≤32000000000000:=fun z hz=>by
  obtain ⟨a1,a2,a3,a4⟩:=ha
  obtain ⟨z1,z2,z3,z4⟩:=hz
  have m1:=Yi (a:=a.X-z.X) (b:=a.X-z.X) (M:=4000000) (by omega) (by omega) (by decide)
  have m2:=Yi (a:=a.Y-z.Y) (b:=a.Y-z.Y) (M:=4000000) (by omega) (by omega) (by decide)
  have e1:(z.X-a.X)*(z.X-a.X)=(a.X-z.X)*(a.X-z.X):=by rw [show z.X-a.X= -(a.X-z.X) by omega,Int.neg_mul_neg]
  have e2:(z.Y-a.Y)*(z.Y-a.Y)=(a.Y-z.Y)*(a.Y-z.Y):=by rw [show z.Y-a.Y= -(a.Y-z.Y) by omega,Int.neg_mul_neg]
  have p1:0≤(a.X-z.X)*(a.X-z.X):=by
   rcases Int.le_total 0 (a.X-z.X) with k|k
   ·exact Int.mul_nonneg k k
   ·exact Int.mul_nonneg_of_nonpos_of_nonpos k k
  have p2:0≤(a.Y-z.Y)*(a.Y-z.Y):=by
   rcases Int.le_total 0 (a.Y-z.Y) with k|k
   ·exact Int.mul_nonneg k k
   ·exact Int.mul_nonneg_of_nonpos_of_nonpos k k
  have e3:eR (Qz a z)=(a.X-z.X)*(a.X-z.X)+(a.Y-z.Y)*(a.Y-z.Y):=by show (z.X-a.X)*(z.X-a.X)+(z.Y-a.Y)*(z.Y-a.Y)=_;rw [e1,e2]
  refine ⟨?_,by rw [e3];omega,by rw [e3];omega⟩
  unfold dM
  rw [Qf,Option.bind_some]
  unfold iQ
  simp only [Option.bind_some]
  rw [wrap64 (z:=a.X-z.X) (by omega) (by omega),wrap64 (z:=a.Y-z.Y) (by omega) (by omega),wrap64 (z:=(a.X-z.X)*(a.X-z.X)) (by omega) (by omega),wrap64 (z:=(a.Y-z.Y)*(a.Y-z.Y)) (by omega) (by omega),wrap64 (by omega) (by omega),e3]
 obtain ⟨q1,q2,q3⟩:=sq x hx
 obtain ⟨r1,r2,r3⟩:=sq y hy
 unfold N6
 rw [q1,Option.bind_some,r1,Option.bind_some,wrap64 (by omega) (by omega)]
theorem qH (n:Nat) (a b:TP) (ha:P2 a) (l:List TP) (hl:∀c∈l,P2 c∧Seg (Qz a b) (Qz a c)) (hlen:l.length≤1000):∃k,Gs (fun x y=>N6 n x y a.X a.Y) l=some k∧k.Perm l:=by
 have hv:∀x∈l,∀y∈l,N6 n x y a.X a.Y=some (eR (Qz a x)-eR (Qz a y)):=fun x hx y hy=>Ahe n a x y ha (hl x hx).1 (hl y hy).1
 have hlt:∀x∈l,∀y∈l,(K9 (fun x y=>N6 n x y a.X a.Y) x y=true↔eR (Qz a x)<eR (Qz a y)):=fun x hx y hy=>by
  show decide ((N6 n x y a.X a.Y).getD 0<0)=true↔_
  rw [hv x hx y hy,decide_eq_true_eq]
  show eR (Qz a x)-eR (Qz a y)<0↔_
  constructor<;>intro h<;>omega
 have ho:Ql (fun x y=>N6 n x y a.X a.Y) l:=by
  refine ⟨fun x hx y hy=>⟨_,hv x hx y hy⟩,fun x hx y hy=> ?_,fun x hx y hy h=> ?_,fun x hx y hy z hz h1 h2=> ?_⟩
  ·rcases Int.lt_trichotomy (eR (Qz a x)) (eR (Qz a y)) with k|k|k
   ·exact .inl ((hlt x hx y hy).2 k)
   ·exact .inr (.inr (Aef (Ab4 (hl x hx).2 (hl y hy).2 k)))
   ·exact .inr (.inl ((hlt y hy x hx).2 k))
  ·have h1:=(hlt x hx y hy).1 h
   cases hq:K9 (fun x y=>N6 n x y a.X a.Y) y x with
   |false=>rfl
   |true=>have h2:=(hlt y hy x hx).1 hq;omega
  ·have k1:=(hlt x hx y hy).1 h1
   have k2:=(hlt y hy z hz).1 h2
   exact (hlt x hx z hz).2 (by omega)
 have e:Gs (fun x y=>N6 n x y a.X a.Y) l=some (Oa (K9 (fun x y=>N6 n x y a.X a.Y)) l):=by
  unfold Gs
  rw [Ra.2 ho,decide_eq_true (show l.length<4611686018427387904 by omega)];rfl
 exact ⟨_,e,(Ho e).1⟩
theorem yO (n:Nat) (p q:List TP) (c4:Bool) (c17 v18:Int) (w11:Nat) (hw:w11<1000000) (a b m:TP) (hq:q.length≤1000) (hn:q.length<n) (L:List TP):
  ∃r,A7 (fun y:Int×List TP=>Et n p q c4 (w11:Int) c17 v18 (q.length:Int) a.X a.Y b.X b.Y m.X m.Y y.1 y.2) n ((0),L)=some r∧(r=.inl (((w11+1:Nat):Int),L)∨r=.inr (.inr true)):=by
 refine Cb (S:=fun y:Int×List TP=>Et n p q c4 (w11:Int) c17 v18 (q.length:Int) a.X a.Y b.X b.Y m.X m.Y y.1 y.2) (fun y=>∃i:Nat,y=((i:Int),L)∧i≤q.length) _ (fun y=>q.length-y.1.toNat) ?_ n ((0),L) ⟨0,rfl,Nat.zero_le _⟩ (by show q.length-(0:Int).toNat<n;omega)
 rintro _ ⟨i,rfl,hi⟩
 show (∃y,Et n p q c4 (w11:Int) c17 v18 (q.length:Int) a.X a.Y b.X b.Y m.X m.Y (i:Int) L=some (.inl y)∧_∧_)∨∃r,Et n p q c4 (w11:Int) c17 v18 (q.length:Int) a.X a.Y b.X b.Y m.X m.Y (i:Int) L=some (.inr r)∧_
 unfold Et
 rcases Nat.lt_or_ge i q.length with hlt|hge
 ·obtain ⟨x,hx⟩:=Er hlt
  obtain ⟨y,hy⟩:=I7 n q i hlt hq
  obtain ⟨o,ho⟩:=Oc n x y (⟨m.X,m.Y⟩:TP)
  have go:∀z:List TP,z=L→∃y,(some (.inl (((i+1:Nat):Int),z)):Option ((Int×List TP)⊕((Int×List TP)⊕((Int)⊕Bool))))=some (.inl y)∧(∃i':Nat,y=((i':Int),L)∧i'≤q.length)∧q.length-y.1.toNat<q.length-(i:Int).toNat:=fun z hz=>⟨_,rfl,⟨i+1,by rw [hz],hlt⟩,by show q.length-((i+1:Nat):Int).toNat<_;omega⟩
  rw [decide_eq_true (show (i:Int)<_ by omega),cond_true,hx,Option.bind_some,hy,Option.bind_some,ho,Option.bind_some,wS (by omega),Qf,Option.bind_some,Qf,Option.bind_some]
  cases o with
  |false=>exact .inl (go L rfl)
  |true=>
   rw [cond_true]
   unfold iQ
   rw [Option.bind_some]
   generalize decide (_>(0:Int))=d
   cases d with
   |false=>exact .inl (go L rfl)
   |true=>exact .inr ⟨_,rfl,.inr rfl⟩
 ·rw [decide_eq_false (show ¬(i:Int)<_ by omega),cond_false,wS (by omega)]
  exact .inr ⟨_,rfl,.inl rfl⟩
theorem yF (n:Nat) (p q:List TP) (c4:Bool) (c17:Int) (v18:Nat) (hv:v18<1000000) (a b:TP) (hq:q.length≤1000) (hn:2000<n) (L:List TP) (hL:L.length≤1100):
  ∃r,A7 (fun y:Int×List TP=>Ge n p q c4 c17 (v18:Int) a.X a.Y b.X b.Y y.1 y.2) n ((1),L)=some r∧(r=.inl ((v18+1:Nat):Int)∨r=.inr true):=by
 refine Cb (S:=fun y:Int×List TP=>Ge n p q c4 c17 (v18:Int) a.X a.Y b.X b.Y y.1 y.2) (fun y=>∃i:Nat,1≤i∧y=((i:Int),L)∧i≤L.length+1) _ (fun y=>L.length+1-y.1.toNat) ?_ n ((1),L) ⟨1,Nat.le_refl _,rfl,by omega⟩ (by show L.length+1-(1:Int).toNat<n;omega)
 rintro _ ⟨i,hi1,rfl,hi⟩
 show (∃y,Ge n p q c4 c17 (v18:Int) a.X a.Y b.X b.Y (i:Int) L=some (.inl y)∧_∧_)∨∃r,Ge n p q c4 c17 (v18:Int) a.X a.Y b.X b.Y (i:Int) L=some (.inr r)∧_
 unfold Ge
 rcases Nat.lt_or_ge i L.length with hlt|hge
 ·obtain ⟨k,rfl⟩:∃k,i=k+1:=⟨i-1,by omega⟩
  have hw:IntKind.wrap .i64 (((k+1:Nat):Int)-1)=(k:Int):=by rw [wrap64 (by omega) (by omega)];omega
  obtain ⟨x,hx⟩:=Er hlt
  obtain ⟨y,hy⟩:=Er (show k<L.length by omega)
  have go:∃y,(some (.inl (((k+1+1:Nat):Int),L)):Option ((Int×List TP)⊕((Int)⊕Bool)))=some (.inl y)∧(∃i':Nat,1≤i'∧y=((i':Int),L)∧i'≤L.length+1)∧L.length+1-y.1.toNat<L.length+1-((k+1:Nat):Int).toNat:=⟨_,rfl,⟨k+1+1,by omega,rfl,by omega⟩,by show L.length+1-((k+1+1:Nat):Int).toNat<_;omega⟩
  rw [decide_eq_true (show ((k+1:Nat):Int)<_ by omega),cond_true,hw,hx,Option.bind_some,hy,Option.bind_some,wS (by omega)]
  cases decide (x=y) with
  |true=>exact .inl go
  |false=>
   rw [cond_false,Option.bind_some,Option.bind_some,Option.bind_some,Option.bind_some]
   obtain ⟨z,hz⟩:=W0 n q (⟨(IntKind.wrap .i64 (Int.tdiv (IntKind.wrap .i64 (x.X+y.X)) (2))),(IntKind.wrap .i64 (Int.tdiv (IntKind.wrap .i64 (x.Y+y.Y)) (2)))⟩:TP) hq (by omega)
   rw [hz,Option.bind_some]
   cases (z==1) with
   |true=>exact .inr ⟨_,rfl,.inr rfl⟩
   |false=>
    rw [cond_false]
    cases (z==0) with
    |false=>exact .inl go
    |true=>
     rw [cond_true]
     obtain ⟨r,hr,rfl|rfl⟩:=yO n p q c4 c17 (v18:Int) (k+1) (by omega) a b (⟨(IntKind.wrap .i64 (Int.tdiv (IntKind.wrap .i64 (x.X+y.X)) (2))),(IntKind.wrap .i64 (Int.tdiv (IntKind.wrap .i64 (x.Y+y.Y)) (2)))⟩:TP) hq (by omega) L
     ·left
      obtain ⟨y',q1,q2,q3⟩:=go
      cases q1
      exact ⟨_,hr,q2,q3⟩
     ·exact .inr ⟨_,hr,.inr rfl⟩
 ·rw [decide_eq_false (show ¬(i:Int)<_ by omega),cond_false,wS (by omega)]
  exact .inr ⟨_,rfl,.inl rfl⟩
theorem Tz (n:Nat) (p q:List TP) (hp:∀x∈p,P2 x) (hq:∀x∈q,P2 x) (hpl:p.length≤900) (hql:q.length≤900) (hn:4000<n):∃b,jG n p q=some b:=by
 unfold jG
 refine F1 p.length (fun i hi=> ?_) (fun i hi=> ?_) n 0 (by omega)
 ·show K6 n p q false (p.length:Int) (i:Int)=_∨_
  unfold K6
  have ha:p[i]?=some p[i]:=List.getElem?_eq_getElem hi
  generalize p[i]=a at ha
  obtain ⟨b,hb,hbm⟩:=lX n p i (by omega) (by omega)
  have a2:=hp a (List.mem_of_getElem? ha)
  have b2:=hp b hbm
  rw [decide_eq_true (show (i:Int)<_ by omega),cond_true,Bv ha,Option.bind_some,hb,Option.bind_some]
  obtain ⟨r,hr,hQ⟩:=Cb (S:=fun y:Int×List TP=>Gx n p q false (p.length:Int) (i:Int) (q.length:Int) a.X a.Y b.X b.Y y.1 y.2) (fun y=>∃(j:Nat) (L:List TP),y=((j:Int),L)∧j≤q.length∧L.length≤2+j∧∀c∈L,P2 c∧Seg (Qz a b) (Qz a c)) (fun r=>r=.inl ((i+1:Nat):Int)∨r=.inr true) (fun y=>q.length-y.1.toNat) (by
   rintro _ ⟨j,L,rfl,hj,hL,hS⟩
   show (∃y,Gx n p q false (p.length:Int) (i:Int) (q.length:Int) a.X a.Y b.X b.Y (j:Int) L=some (.inl y)∧_∧_)∨∃r,Gx n p q false (p.length:Int) (i:Int) (q.length:Int) a.X a.Y b.X b.Y (j:Int) L=some (.inr r)∧_
   unfold Gx
   rcases Nat.lt_or_ge j q.length with hlt|hge
   ·have hc:q[j]?=some q[j]:=List.getElem?_eq_getElem hlt
    generalize q[j]=c at hc
    have c2:=hq c (List.mem_of_getElem? hc)
    obtain ⟨o,ho⟩:=Oc n (⟨a.X,a.Y⟩:TP) (⟨b.X,b.Y⟩:TP) c
    rw [decide_eq_true (show (j:Int)<_ by omega),cond_true,Bv hc,Option.bind_some,ho,Option.bind_some,wS (by omega)]
    cases o with
    |false=>exact .inl ⟨_,rfl,⟨j+1,L,rfl,hlt,by omega,hS⟩,by show q.length-((j+1:Nat):Int).toNat<q.length-(j:Int).toNat;omega⟩
    |true=>
     rw [cond_true,Hj (by simp only [List.length_singleton];omega) (by simp only [List.length_singleton];omega),Option.bind_some]
     refine .inl ⟨_,rfl,⟨j+1,L++[c],rfl,hlt,by simp;omega,fun x hx=> ?_⟩,by show q.length-((j+1:Nat):Int).toNat<q.length-(j:Int).toNat;omega⟩
     rcases List.mem_append.1 hx with k|k
     ·exact hS x k
     ·rw [List.mem_singleton.1 k]
      exact ⟨c2,Akd n a b c a2 b2 c2 ho⟩
   ·rw [decide_eq_false (show ¬(j:Int)<_ by omega),cond_false]
    obtain ⟨k,hk,hkp⟩:=qH n a b a2 L hS (by omega)
    rw [hk,Option.bind_some]
    obtain ⟨r,hr,hq'⟩:=yF n p q false (p.length:Int) i (by omega) a b (by omega) (by omega) k (by rw [hkp.length_eq];omega)
    rw [hr]
    exact .inr ⟨_,rfl,hq'⟩) n ((0),[a,b]) ⟨0,[a,b],rfl,Nat.zero_le _,by simp,fun c hc=>by
    rcases List.mem_cons.1 hc with k|k
    ·rw [k];exact ⟨a2,(cS a b).1⟩
    ·rw [List.mem_singleton.1 k];exact ⟨b2,(cS a b).2⟩⟩ (by show q.length-(0:Int).toNat<n;omega)
  rw [hr]
  rcases hQ with rfl|rfl
  ·exact .inl rfl
  ·exact .inr ⟨_,rfl⟩
 ·show ∃r,K6 n p q false (p.length:Int) (i:Int)=_
  unfold K6
  rw [decide_eq_false (show ¬(i:Int)<_ by omega)]
  exact ⟨_,rfl⟩
theorem S6 (n:Nat) (p:List TP) (hl:p.length≤1000) (hn:p.length<n) (hp:∀x∈p,POk x):∃d,kE n p=some d∧d.length=p.length∧∀x∈d,P2 x:=by
 unfold kE
 refine Cb (S:=fun y:Int×List TP=>Kr n p (p.length:Int) y.1 y.2) (fun y=>∃(i:Nat) (L:List TP),y=((i:Int),L)∧i≤p.length∧L.length=i∧∀x∈L,P2 x) _ (fun y=>p.length-y.1.toNat) ?_ n ((0),[]) ⟨0,[],rfl,Nat.zero_le _,rfl,fun x hx=>by cases hx⟩ (by show p.length-(0:Int).toNat<n;omega)
 rintro _ ⟨i,L,rfl,hi,hL,hS⟩
 show (∃y,Kr n p (p.length:Int) (i:Int) L=some (.inl y)∧_∧_)∨∃r,Kr n p (p.length:Int) (i:Int) L=some (.inr r)∧_
 unfold Kr
 rcases Nat.lt_or_ge i p.length with hlt|hge
 ·have hc:p[i]?=some p[i]:=List.getElem?_eq_getElem hlt
  generalize p[i]=c at hc
  obtain ⟨c1,c2,c3,c4⟩:=hp c (List.mem_of_getElem? hc)
  rw [decide_eq_true (show (i:Int)<_ by omega),cond_true,Bv hc,Option.bind_some,Hj (by simp only [List.length_singleton];omega) (by simp only [List.length_singleton];omega),Option.bind_some,wS (by omega),wrap64 (z:=2*c.X) (by omega) (by omega),wrap64 (z:=2*c.Y) (by omega) (by omega)]
  refine .inl ⟨_,rfl,⟨i+1,_,rfl,hlt,by simp [hL],fun x hx=> ?_⟩,by show p.length-((i+1:Nat):Int).toNat<p.length-(i:Int).toNat;omega⟩
  rcases List.mem_append.1 hx with k|k
  ·exact hS x k
  ·rw [List.mem_singleton.1 k]
   exact ⟨by show -2000000≤2*c.X;omega,by show 2*c.X≤_;omega,by show -2000000≤2*c.Y;omega,by show 2*c.Y≤_;omega⟩
 ·rw [decide_eq_false (show ¬(i:Int)<_ by omega),cond_false]
  exact .inr ⟨L,rfl,by omega,hS⟩
theorem iJ (n:Nat) (p q:List TP) (hp:aP p) (hq:aP q) (hn:4000<n):∃r,A7 (fun y:Int=>Jz n p q false (0) (p.length:Int) y) n (0)=some r:=by
 have p1:=hp.lo
 have p2:=hp.hi
 have q1:=hq.lo
 have q2:=hq.hi
 obtain ⟨dp,e1,l1,b1⟩:=S6 n p (by omega) (by omega) hp.pts
 obtain ⟨dq,e2,l2,b2⟩:=S6 n q (by omega) (by omega) hq.pts
 refine F1 p.length (fun i hi=> ?_) (fun i hi=> ?_) n 0 (by omega)
 ·show Jz n p q false (0) (p.length:Int) (i:Int)=_∨_
  obtain ⟨x,hx⟩:=Er hi
  obtain ⟨y,hy⟩:=I7 n p i hi (by omega)
  obtain ⟨r,hr,hQ⟩:=Cb (S:=fun y:Int=>Gu n p q false (0) (i:Int) (p.length:Int) (q.length:Int) y) (fun y=>∃j:Nat,y=(j:Int)∧j≤q.length) (fun r=>r=.inl ((i+1:Nat):Int)∨∃z,r=.inr z) (fun y=>q.length-y.toNat) (by
   rintro _ ⟨j,rfl,hj⟩
   show (∃y,Gu n p q false (0) (i:Int) (p.length:Int) (q.length:Int) (j:Int)=some (.inl y)∧_∧_)∨∃r,Gu n p q false (0) (i:Int) (p.length:Int) (q.length:Int) (j:Int)=some (.inr r)∧_
   unfold Gu
   rcases Nat.lt_or_ge j q.length with hlt|hge
   ·obtain ⟨u,hu⟩:=Er hlt
    obtain ⟨v,hv⟩:=I7 n q j hlt (by omega)
    obtain ⟨b,hb⟩:=S9 n x y u v
    rw [decide_eq_true (show (j:Int)<_ by omega),cond_true,hx,Option.bind_some,hy,Option.bind_some,hu,Option.bind_some,hv,Option.bind_some,hb,Option.bind_some,wS (by omega)]
    cases b
    ·exact .inl ⟨_,rfl,⟨j+1,rfl,hlt⟩,by show q.length-((j+1:Nat):Int).toNat<q.length-(j:Int).toNat;omega⟩
    ·exact .inr ⟨_,rfl,.inr ⟨_,rfl⟩⟩
   ·rw [decide_eq_false (show ¬(j:Int)<_ by omega),cond_false,wS (by omega)]
    exact .inr ⟨_,rfl,.inl rfl⟩) n 0 ⟨0,rfl,Nat.zero_le _⟩ (by show q.length-(0:Int).toNat<n;omega)
  unfold Jz
  rw [decide_eq_true (show (i:Int)<_ by omega),cond_true,hr]
  rcases hQ with rfl|⟨z,rfl⟩
  ·exact .inl rfl
  ·exact .inr ⟨_,rfl⟩
 ·show ∃r,Jz n p q false (0) (p.length:Int) (i:Int)=_
  obtain ⟨x,hx⟩:=Tz n dp dq b1 b2 (by omega) (by omega) hn
  obtain ⟨y,hy⟩:=Tz n dq dp b2 b1 (by omega) (by omega) hn
  unfold Jz
  rw [decide_eq_false (show ¬(i:Int)<_ by omega),cond_false,e1,Option.bind_some,e2,Option.bind_some,hx,Option.bind_some,hy]
  cases x
  ·exact ⟨_,rfl⟩
  ·exact ⟨_,rfl⟩
theorem dP (n:Nat) (p q:List TP) (hn:4000<n):∃r,sC n p q=some r:=by
 obtain ⟨z1,e1,k1⟩:=Oi n p (by omega)
 obtain ⟨z2,e2,k2⟩:=Oi n q (by omega)
 unfold sC
 obtain ⟨r,hr,-⟩:=Cb (S:=fun y:Int=>Jw n p q false (0) ([p,q]:List (List TP)) (([p,q]:List (List TP)).length:Int) y) (fun y=>∃i:Nat,y=(i:Int)∧i≤2∧(1≤i→z1=0)∧(2≤i→z2=0)) (fun _=>True) (fun y=>2-y.toNat) (by
  rintro _ ⟨i,rfl,hi,j1,j2⟩
  show (∃y,Jw n p q false (0) ([p,q]:List (List TP)) (([p,q]:List (List TP)).length:Int) (i:Int)=some (.inl y)∧_∧_)∨∃r,Jw n p q false (0) ([p,q]:List (List TP)) (([p,q]:List (List TP)).length:Int) (i:Int)=some (.inr r)∧_
  rcases Nat.lt_or_ge i 2 with hlt|hge
  ·have hx:∃x z,([p,q]:List (List TP))[i]?=some x∧cE n x=some z∧(z=0→(1≤i+1→z1=0)∧(2≤i+1→z2=0)):=by
    match i,hlt with
    |0,_=>exact ⟨p,z1,rfl,e1,fun h=>⟨fun _=>h,fun h=>by omega⟩⟩
    |1,_=>exact ⟨q,z2,rfl,e2,fun h=>⟨fun _=>j1 (by omega),fun _=>h⟩⟩
   obtain ⟨x,z,hx,hz,hz2⟩:=hx
   unfold Jw
   rw [decide_eq_true (show (i:Int)<_ by simp;omega),cond_true,Bv hx,Option.bind_some,hz,Option.bind_some,wS (by omega)]
   by_cases h:z=0
   ·rw [h]
    exact .inl ⟨_,rfl,⟨i+1,rfl,by omega,(hz2 h).1,(hz2 h).2⟩,by show 2-((i+1:Nat):Int).toNat<2-(i:Int).toNat;omega⟩
   ·rw [bne_iff_ne.2 h,cond_true]
    exact .inr ⟨_,rfl,trivial⟩
  ·obtain ⟨r,hr⟩:=iJ n p q (k1 (j1 (by omega))) (k2 (j2 hge)) hn
   unfold Jw
   rw [decide_eq_false (show ¬(i:Int)<_ by simp;omega),cond_false,hr]
   exact .inr ⟨r,rfl,trivial⟩) n 0 ⟨0,rfl,by omega,fun h=>by omega,fun h=>by omega⟩ (by show 2-(0:Int).toNat<n;omega)
 exact ⟨r,hr⟩
def Wv (v:Al):Prop:=aP v.D0
theorem Nf (n:Nat) (v:Al) (hn:40<n):∃z,Vt n v=some z∧(z=0→Wv v):=by
 obtain ⟨z,e,k⟩:=Oi n v.D0 hn
 unfold Vt
 rw [e,Option.bind_some]
 by_cases h:z=0
 ·rw [h,show ((0:Int) !=0)=false from rfl,cond_false]
  cases decide (v.Hw<0)<;>cases decide (v.D4>60001)<;>cases decide (v.Hw≥v.D4)<;>exact ⟨_,rfl,fun _=>k h⟩
 ·rw [bne_iff_ne.2 h,cond_true]
  exact ⟨z,rfl,fun h0=>absurd h0 h⟩
theorem qZ (n:Nat) (v w:Al) (hn:4000<n):∃r,pP n v w=some r:=by
 obtain ⟨z1,e1,k1⟩:=Nf n v (by omega)
 obtain ⟨z2,e2,k2⟩:=Nf n w (by omega)
 obtain ⟨o,ho⟩:=dP n v.D0 w.D0 hn
 unfold pP
 refine F1 2 (fun i hi=> ?_) (fun i hi=> ?_) n 0 (by omega)
 ·have hx:∃x z,([v,w]:List Al)[i]?=some x∧Vt n x=some z:=by
   match i,hi with
   |0,_=>exact ⟨v,z1,rfl,e1⟩
   |1,_=>exact ⟨w,z2,rfl,e2⟩
  obtain ⟨x,z,hx,hz⟩:=hx
  show J2 n false (0) ([v,w]:List Al) (([v,w]:List Al).length:Int) v.D0 v.Hw v.D4 w.D0 w.Hw w.D4 (i:Int)=_∨∃r,J2 n false (0) ([v,w]:List Al) (([v,w]:List Al).length:Int) v.D0 v.Hw v.D4 w.D0 w.Hw w.D4 (i:Int)=_
  unfold J2
  rw [decide_eq_true (show (i:Int)<_ by simp;omega),cond_true,Bv hx,Option.bind_some,hz,Option.bind_some,wS (by omega)]
  cases (z !=0)
  ·exact .inl rfl
  ·exact .inr ⟨_,rfl⟩
 ·show ∃r,J2 n false (0) ([v,w]:List Al) (([v,w]:List Al).length:Int) v.D0 v.Hw v.D4 w.D0 w.Hw w.D4 (i:Int)=_
  unfold J2
  rw [decide_eq_false (show ¬(i:Int)<_ by simp;omega),cond_false,ho,Option.bind_some]
  cases (o.2==0)<;>cases o.1<;>exact ⟨_,rfl⟩
theorem zX (n:Nat) (hn:16<n) (s:ByteArray):∃b,j7 n s=some b:=by
 unfold j7
 by_cases h1:(s.size:Int)<1
 ·simp [h1]
 by_cases h2:(s.size:Int)>8
 ·simp [h1,h2]
 have hl:s.data.toList.length=s.size:=Array.length_toList
 rw [decide_eq_false h1,decide_eq_false h2,Hj (by omega) (by omega)]
 simp only [cond_false,Option.bind_some]
 refine F1 s.data.toList.length (fun i hi=> ?_) (fun i hi=> ?_) n 0 (by omega)
 ·obtain ⟨x,hx⟩:=Er hi
  show I1 n false (s.data.toList) ((s.data.toList).length:Int) (i:Int)=_∨∃r,I1 n false (s.data.toList) ((s.data.toList).length:Int) (i:Int)=_
  unfold I1
  rw [decide_eq_true (show (i:Int)<_ by omega),hx,wS (by omega)]
  simp only [cond_true,Option.bind_some]
  repeat' (rw [Bool.cond_eq_ite];split)
  all_goals simp
 ·show ∃r,I1 n false (s.data.toList) ((s.data.toList).length:Int) (i:Int)=_
  unfold I1
  rw [decide_eq_false (show ¬(i:Int)<_ by omega)]
  exact ⟨_,rfl⟩
theorem Xf (n:Nat) (hn:16<n) (s:ByteArray):∃b,aE n s=some b:=by
 unfold aE
 exact Dk (zX n hn s) fun _=>⟨_,rfl⟩
structure fA (l:List Au):Prop where
 len:l.length≤12
 Al6:∀s∈l,s.Room.length≤4∧∀v∈s.Room,Wv v
theorem pS (n:Nat) (l:List Au) (a:ByteArray) (b:List Al) (hl:l.length<n) (hl2:l.length≤1000):∃r,cO n l a b=some r:=by
 unfold cO Rt
 refine Dk (F1 l.length (fun i hi=> ?_) (fun i hi=> ?_) n 0 (by omega)) fun _=>⟨_,rfl⟩
 ·obtain ⟨x,hx⟩:=Er hi
  show Dv n l a b (0) (l.length:Int) (i:Int)=_∨∃r,Dv n l a b (0) (l.length:Int) (i:Int)=_
  unfold Dv pI
  rw [decide_eq_true (show (i:Int)<_ by omega),cond_true,hx,Option.bind_some,Option.bind_some,wS (by omega)]
  cases (x.Name.toList==a.toList)
  ·exact .inl rfl
  ·exact .inr ⟨_,rfl⟩
 ·show ∃r,Dv n l a b (0) (l.length:Int) (i:Int)=_
  unfold Dv
  rw [decide_eq_false (show ¬(i:Int)<_ by omega)]
  exact ⟨_,rfl⟩
theorem sF (n:Nat) (hn:4500<n) (l:List Au) (hl:l.length≤12) (i:Nat) (hi:i<l.length) (c19:Int) (R:List Al) (nm:ByteArray) (hR:R.length≤4) (hR0:R≠[]) (L:List Al) (hL:L.length≤100):
  ∃r,A7 (fun y:Int×List Al=>Ej n l 0 (i:Int) c19 R (R.length:Int) nm y.1 y.2) n ((0),L)=some r∧((r=.inl (((i+1:Nat):Int),L++R)∧∀v∈R,Wv v)∨∃z,z≠0∧r=.inr z):=by
 refine Cb (S:=fun y:Int×List Al=>Ej n l 0 (i:Int) c19 R (R.length:Int) nm y.1 y.2) (fun y=>∃j:Nat,y=((j:Int),L)∧j≤R.length∧∀(k:Nat) (v:Al),k<j→R[k]?=some v→Wv v) _ (fun y=>R.length-y.1.toNat) ?_ n ((0),L) ⟨0,rfl,Nat.zero_le _,fun k v h=>absurd h (Nat.not_lt_zero _)⟩ (by show R.length-(0:Int).toNat<n;omega)
 rintro _ ⟨j,rfl,hj,hv⟩
 show (∃y,Ej n l 0 (i:Int) c19 R (R.length:Int) nm (j:Int) L=some (.inl y)∧_∧_)∨∃r,Ej n l 0 (i:Int) c19 R (R.length:Int) nm (j:Int) L=some (.inr r)∧_
 unfold Ej
 rcases Nat.lt_or_ge j R.length with hlt|hge
 ·have hx:R[j]?=some R[j]:=List.getElem?_eq_getElem hlt
  generalize R[j]=x at hx
  obtain ⟨z,hz,kz⟩:=Nf n x (by omega)
  rw [decide_eq_true (show (j:Int)<_ by omega),cond_true,Bv hx,Option.bind_some,hz,Option.bind_some,wS (by omega)]
  by_cases h:z=0
  ·rw [h]
   refine .inl ⟨_,rfl,⟨j+1,rfl,hlt,fun k v hk hkv=> ?_⟩,by show R.length-((j+1:Nat):Int).toNat<R.length-(j:Int).toNat;omega⟩
   by_cases e:k=j
   ·subst e;rw [hx] at hkv;cases hkv;exact kz h
   ·exact hv k v (by omega) hkv
  ·rw [bne_iff_ne.2 h,cond_true]
   exact .inr ⟨_,rfl,.inr ⟨z,h,rfl⟩⟩
 ·have htl:(l.take i).length≤12:=by rw [List.length_take];omega
  obtain ⟨b,hb⟩:=pS n (l.take i) nm R (by omega) (by omega)
  have hne:neO R=some ():=by
   cases hR':R with
   |nil=>exact absurd hR' hR0
   |cons _ _=>rfl
  rw [decide_eq_false (show ¬(j:Int)<_ by omega),cond_false,O4 l i (by omega),Option.bind_some,hb,Option.bind_some]
  cases b with
  |true=>exact .inr ⟨_,rfl,.inr ⟨7,by decide,rfl⟩⟩
  |false=>
   rw [cond_false,hne,Option.bind_some,Hj (by omega) (by omega),Option.bind_some,wS (by omega)]
   refine .inr ⟨_,rfl,.inl ⟨rfl,fun v hv'=> ?_⟩⟩
   obtain ⟨k,hk⟩:=List.getElem?_of_mem hv'
   exact hv k v (by have:=Dt hk;omega) hk
theorem Uk (n:Nat) (hn:4500<n) (L:List Al) (hL:L.length≤100):∃z,A7 (fun y:Int=>I6 n 0 L (L.length:Int) y) n (0)=some z:=by
 refine F1 L.length (fun i hi=> ?_) (fun i hi=> ?_) n 0 (by omega)
 ·obtain ⟨x,hx⟩:=Er hi
  show I6 n 0 L (L.length:Int) (i:Int)=_∨∃r,I6 n 0 L (L.length:Int) (i:Int)=_
  obtain ⟨r,hr,hQ⟩:=Cb (S:=fun y:Int=>Gz n 0 L (L.length:Int) (i:Int) (L.take i) ((L.take i).length:Int) x.D0 x.Hw x.D4 y) (fun y=>∃j:Nat,y=(j:Int)∧j≤(L.take i).length) (fun r=>r=.inl ((i+1:Nat):Int)∨∃z,r=.inr z) (fun y=>(L.take i).length-y.toNat) (by
   rintro _ ⟨j,rfl,hj⟩
   show (∃y,Gz n 0 L (L.length:Int) (i:Int) (L.take i) ((L.take i).length:Int) x.D0 x.Hw x.D4 (j:Int)=some (.inl y)∧_∧_)∨∃r,Gz n 0 L (L.length:Int) (i:Int) (L.take i) ((L.take i).length:Int) x.D0 x.Hw x.D4 (j:Int)=some (.inr r)∧_
   have hjl:(L.take i).length≤100:=by rw [List.length_take];omega
   unfold Gz
   rcases Nat.lt_or_ge j (L.take i).length with hlt|hge
   ·obtain ⟨w,hw⟩:=Er hlt
    obtain ⟨o,ho⟩:=qZ n (⟨x.D0,x.Hw,x.D4⟩:Al) w (by omega)
    rw [decide_eq_true (show (j:Int)<_ by omega),cond_true,hw,Option.bind_some,ho,Option.bind_some,wS (by omega)]
    cases o.1
    ·exact .inl ⟨_,rfl,⟨j+1,rfl,hlt⟩,by show (L.take i).length-((j+1:Nat):Int).toNat<(L.take i).length-(j:Int).toNat;omega⟩
    ·exact .inr ⟨_,rfl,.inr ⟨_,rfl⟩⟩
   ·rw [decide_eq_false (show ¬(j:Int)<_ by omega),cond_false,wS (by omega)]
    exact .inr ⟨_,rfl,.inl rfl⟩) n 0 ⟨0,rfl,Nat.zero_le _⟩ (by show (L.take i).length-(0:Int).toNat<n;rw [List.length_take];omega)
  unfold I6
  rw [decide_eq_true (show (i:Int)<_ by omega),cond_true,hx,Option.bind_some,O4 L i (by omega),Option.bind_some,hr]
  rcases hQ with rfl|⟨z,rfl⟩
  ·exact .inl rfl
  ·exact .inr ⟨_,rfl⟩
 ·show ∃r,I6 n 0 L (L.length:Int) (i:Int)=_
  unfold I6
  rw [decide_eq_false (show ¬(i:Int)<_ by omega)]
  exact ⟨_,rfl⟩
theorem sH (n:Nat) (hn:4500<n) (l:List Au):∃z,fB n l=some z∧(z=0→fA l):=by
 unfold fB
 by_cases h1:(l.length:Int)>12
 ·rw [decide_eq_true h1,cond_true];exact ⟨2,rfl,fun h=>by cases h⟩
 rw [decide_eq_false h1,cond_false]
 refine Cb (S:=fun y:Int×List Al=>G6 n l 0 (l.length:Int) y.1 y.2) (fun y=>∃(i:Nat) (L:List Al),y=((i:Int),L)∧i≤l.length∧L.length≤4*i∧∀(k:Nat) (s:Au),k<i→l[k]?=some s→s.Room.length≤4∧∀v∈s.Room,Wv v) _ (fun y=>l.length-y.1.toNat) ?_ n ((0),[]) ⟨0,[],rfl,Nat.zero_le _,Nat.zero_le _,fun k v h=>absurd h (Nat.not_lt_zero _)⟩ (by show l.length-(0:Int).toNat<n;omega)
 rintro _ ⟨i,L,rfl,hi,hL,hv⟩
 show (∃y,G6 n l 0 (l.length:Int) (i:Int) L=some (.inl y)∧_∧_)∨∃r,G6 n l 0 (l.length:Int) (i:Int) L=some (.inr r)∧_
 unfold G6
 rcases Nat.lt_or_ge i l.length with hlt|hge
 ·have hx:l[i]?=some l[i]:=List.getElem?_eq_getElem hlt
  generalize l[i]=x at hx
  obtain ⟨b,hb⟩:=Xf n (by omega) x.Name
  rw [decide_eq_true (show (i:Int)<_ by omega),cond_true,Bv hx,Option.bind_some,hb,Option.bind_some]
  cases b with
  |false=>exact .inr ⟨_,rfl,fun h=>by cases h⟩
  |true=>
  rw [Bool.not_true,cond_false]
  by_cases h0:(x.Room.length:Int)=0
  ·rw [beq_iff_eq.2 h0,cond_true];exact .inr ⟨_,rfl,fun h=>by cases h⟩
  by_cases h4:(x.Room.length:Int)>4
  ·rw [beq_eq_false_iff_ne.2 h0,cond_false,decide_eq_true h4,cond_true];exact .inr ⟨_,rfl,fun h=>by cases h⟩
  rw [beq_eq_false_iff_ne.2 h0,cond_false,decide_eq_false h4,cond_false]
  obtain ⟨r,hr,⟨rfl,hvs⟩|⟨z,hz,rfl⟩⟩:=sF n hn l (by omega) i hlt (l.length:Int) x.Room x.Name (by omega) (fun e=>h0 (by rw [e];rfl)) L (by omega)
  ·refine .inl ⟨_,hr,⟨i+1,L++x.Room,rfl,hlt,by rw [List.length_append];omega,fun k s hk hks=> ?_⟩,by show l.length-((i+1:Nat):Int).toNat<l.length-(i:Int).toNat;omega⟩
   by_cases e:k=i
   ·subst e;rw [hx] at hks;cases hks;exact ⟨by omega,hvs⟩
   ·exact hv k s (by omega) hks
  ·exact .inr ⟨z,hr,fun h=>absurd h hz⟩
 ·obtain ⟨z,hz⟩:=Uk n hn L (by omega)
  rw [decide_eq_false (show ¬(i:Int)<_ by omega),cond_false,hz]
  refine .inr ⟨z,rfl,fun _=>⟨by omega,fun s hs=> ?_⟩⟩
  obtain ⟨k,hk⟩:=List.getElem?_of_mem hs
  exact hv k s (by have:=Dt hk;omega) hk
theorem Aci (n:Nat) (hn:4500<n) (x y h:Int) (R:List Al) (hR:R.length≤4) (hv:∀v∈R,Wv v):∃b,qX n R x y h=some b:=by
 unfold qX vE
 refine Dk (F1 R.length (fun i hi=> ?_) (fun i hi=> ?_) n 0 (by omega)) fun _=>⟨_,rfl⟩
 ·have hx:R[i]?=some R[i]:=List.getElem?_eq_getElem hi
  generalize R[i]=v at hx
  have hp:=hv v (List.mem_of_getElem? hx)
  have hp2:=hp.hi
  have hc:∃b,sQ n v x y h=some b:=by
   unfold sQ uV
   exact Dk (Fw (Fw (Dk (W0 n v.D0 _ (by omega) (by omega)) fun _=>⟨_,rfl⟩) ⟨_,rfl⟩) ⟨_,rfl⟩) fun _=>⟨_,rfl⟩
  obtain ⟨b,hb⟩:=hc
  show J1 n R x y h (0) (R.length:Int) (i:Int)=_∨∃r,J1 n R x y h (0) (R.length:Int) (i:Int)=_
  unfold J1
  rw [decide_eq_true (show (i:Int)<_ by omega),cond_true,Bv hx,Option.bind_some,hb,Option.bind_some,wS (by omega)]
  cases b
  ·exact .inl rfl
  ·exact .inr ⟨_,rfl⟩
 ·show ∃r,J1 n R x y h (0) (R.length:Int) (i:Int)=_
  unfold J1
  rw [decide_eq_false (show ¬(i:Int)<_ by omega)]
  exact ⟨_,rfl⟩
theorem pJ (n:Nat) (hn:4500<n) (l:List Au) (hl:fA l) (at_:TP) (h:Int):∃i:Int,sD n l at_ h=some i∧-1≤i∧i<(l.length:Int):=by
 have hlen:=hl.len
 unfold sD zJ
 have e:=Jb (fun s:Au=>(iA n s at_.X at_.Y h).getD false) l (by omega) (S:=fun y:Int=>Jv n l at_.X at_.Y h (0) (l.length:Int) y) (fun i s hs=>by
  have:=Dt hs
  obtain ⟨h1,h2⟩:=hl.Al6 s (List.mem_of_getElem? hs)
  obtain ⟨b,hb⟩:=Aci n hn at_.X at_.Y h s.Room h1 h2
  have hb2:iA n s at_.X at_.Y h=some b:=by
   unfold iA
   rw [hb];rfl
  show Jv n l at_.X at_.Y h (0) (l.length:Int) (i:Int)=_
  unfold Jv
  rw [decide_eq_true (show (i:Int)<_ by omega),cond_true,Bv hs,Option.bind_some,hb2,Option.bind_some,wS (by omega)]
  cases b<;>rfl) (by
  show Jv n l at_.X at_.Y h (0) (l.length:Int) (l.length:Int)=_
  unfold Jv
  rw [decide_eq_false (Int.lt_irrefl _)];rfl) n (by omega)
 rw [e]
 exact ⟨_,rfl,(Qg _ l).1,(Qg _ l).2⟩
def Xn (x:Ad):Prop:=0≤x.Am∧x.Am≤200000∧POk ⟨x.A5,x.A6⟩∧0≤x.Ar∧x.Ar≤60000∧0≤x.Bl∧x.Bl≤1000000∧0≤x.Co∧x.Co≤60000
structure Fg (l:List Ad):Prop where
 pos:1≤l.length
 len:l.length≤64
 nodes:∀x∈l,Xn x
 inc:∀(i:Nat) (x y:Ad),l[i]?=some x→l[i+1]?=some y→x.Am<y.Am
theorem Vd (n:Nat) (x:Ad) (w:Int) (h0:¬x.Am<0) (h1:¬x.Am>200000) {s:Int⊕Int} (hs:((iO n (⟨x.A5,x.A6⟩:TP)).bind fun x6=>
bif (x6 !=(0)) then (
some (.inr (x6))) else (
bif (decide (x.Ar<(0))) then (
some (.inr (4))) else (
bif (decide (x.Ar>(60000))) then (
some (.inr (4))) else (
bif (decide (x.Bl<(0))) then (
some (.inr (4))) else (
bif (decide (x.Bl>(1000000))) then (
some (.inr (4))) else (
bif (decide (x.Co<(0))) then (
some (.inr (4))) else (
bif (decide (x.Co>(60000))) then (
some (.inr (4))) else (
some (.inl w)))))))))=some s):(s=.inl w∧Xn x)∨∃r,s=.inr r∧r≠0:=by
 rcases Uc n ⟨x.A5,x.A6⟩ with ⟨e,hp⟩|⟨e,hp⟩
 ·rw [e,Option.bind_some,show ((0:Int) !=0)=false from rfl,cond_false] at hs
  simp only [cond_eq_ite,decide_eq_true_eq] at hs
  repeat' split at hs
  all_goals cases hs
  all_goals first|(right;exact ⟨_,rfl,by decide⟩)|(left;exact ⟨rfl,by omega,by omega,hp,by omega,by omega,by omega,by omega,by omega,by omega⟩)
 ·rw [e,Option.bind_some,show ((4:Int) !=0)=true from rfl,cond_true] at hs
  cases hs
  exact .inr ⟨_,rfl,by decide⟩
theorem j6 (n:Nat) (l:List Ad) (hl:l.length≤64) (i:Nat) (x:Ad) (hx:l[i]?=some x):
  (Nu n l 0 (l.length:Int) (i:Int)=some (.inl ((i+1:Nat):Int))∧Xn x∧∀y,0<i→l[i-1]?=some y→y.Am<x.Am)∨∃r,Nu n l 0 (l.length:Int) (i:Int)=some (.inr r)∧r≠0:=by
 have hlt:=Dt hx
 unfold Nu
 rw [decide_eq_true (show (i:Int)<(l.length:Int) by omega),Bv hx,cond_true,Option.bind_some,wS (show i<9223372036854775807 by omega)]
 by_cases a1:x.Am<0
 ·rw [decide_eq_true a1,cond_true];exact .inr ⟨12,rfl,by decide⟩
 rw [decide_eq_false a1,cond_false]
 by_cases a2:x.Am>200000
 ·rw [decide_eq_true a2,cond_true];exact .inr ⟨12,rfl,by decide⟩
 rw [decide_eq_false a2,cond_false]
 have fin:∀s:Option (Int⊕Int),(∀q,s=some q→(q=.inl ((i+1:Nat):Int)∧Xn x)∨∃r,q=.inr r∧r≠0)→s≠none→(∀y,0<i→l[i-1]?=some y→y.Am<x.Am)→(s=some (.inl ((i+1:Nat):Int))∧Xn x∧∀y,0<i→l[i-1]?=some y→y.Am<x.Am)∨∃r,s=some (.inr r)∧r≠0:=by
  intro s h1 h2 h3
  cases s with
  |none=>exact absurd rfl h2
  |some q=>
   rcases h1 q rfl with ⟨rfl,h⟩|⟨r,rfl,h⟩
   ·exact .inl ⟨rfl,h,h3⟩
   ·exact .inr ⟨r,rfl,h⟩
 have nn:∀(w:Int),((iO n (⟨x.A5,x.A6⟩:TP)).bind fun x6=>
bif (x6 !=(0)) then (
some (Sum.inr (x6))) else (
bif (decide (x.Ar<(0))) then (
some (.inr (4))) else (
bif (decide (x.Ar>(60000))) then (
some (.inr (4))) else (
bif (decide (x.Bl<(0))) then (
some (.inr (4))) else (
bif (decide (x.Bl>(1000000))) then (
some (.inr (4))) else (
bif (decide (x.Co<(0))) then (
some (.inr (4))) else (
bif (decide (x.Co>(60000))) then (
some (.inr (4))) else (
some (.inl w)))))))))≠none:=by
  intro w
  rcases Uc n ⟨x.A5,x.A6⟩ with ⟨e,-⟩|⟨e,-⟩
  ·rw [e,Option.bind_some,show ((0:Int) !=0)=false from rfl]
   simp only [cond_false,cond_eq_ite]
   repeat' split
   all_goals exact fun h=>by cases h
  ·rw [e,Option.bind_some,show ((4:Int) !=0)=true from rfl,cond_true]
   exact fun h=>by cases h
 rcases i with _|j
 ·rw [show decide (((0:Nat):Int)>0)=false from rfl,cond_false]
  exact fin _ (fun q hq=>Vd n x _ a1 a2 hq) (nn _) (fun y h=>absurd h (Nat.lt_irrefl 0))
 ·have hj:j<l.length:=by omega
  have hy:l[j]?=some l[j]:=List.getElem?_eq_getElem hj
  have hwj:IntKind.wrap .i64 (((j+1:Nat):Int)-1)=(j:Int):=by rw [wrap64 (by omega) (by omega)];omega
  rw [decide_eq_true (show ((j+1:Nat):Int)>0 by omega),cond_true,hwj,Bv hy,Option.bind_some]
  by_cases a3:x.Am≤l[j].Am
  ·rw [decide_eq_true a3,cond_true];exact .inr ⟨12,rfl,by decide⟩
  rw [decide_eq_false a3,cond_false]
  exact fin _ (fun q hq=>Vd n x _ a1 a2 hq) (nn _) (fun y _ h=>by rw [Nat.add_sub_cancel,hy] at h;cases h;omega)
theorem qU (n:Nat) (hn:64<n) (l:List Ad):(eA n l=some 0∧Fg l)∨∃z,z≠0∧eA n l=some z:=by
 unfold eA
 by_cases h1:(l.length:Int)>64
 ·right;exact ⟨2,by decide,by rw [decide_eq_true h1];rfl⟩
 rw [decide_eq_false h1,cond_false]
 by_cases h2:(l.length:Int)=0
 ·right;exact ⟨3,by decide,by rw [h2];rfl⟩
 rw [show ((l.length:Int)==0)=false from beq_eq_false_iff_ne.2 h2,cond_false]
 obtain ⟨r,hr,h⟩:=Rh (S:=fun y:Int=>Nu n l 0 (l.length:Int) y) l (fun i x=>Xn x∧∀y,0<i→l[i-1]?=some y→y.Am<x.Am) (fun r=>r≠0) 0 (fun i x hx=>j6 n l (by omega) i x hx) (by
  unfold Nu
  rw [decide_eq_false (Int.lt_irrefl _)];rfl) n (by omega)
 rcases h with h|⟨rfl,h⟩
 ·right;exact ⟨r,h,hr⟩
 ·left
  refine ⟨hr,by omega,by omega,fun x hx=> ?_,fun i x y hx hy=>(h (i+1) y hy).2 x (Nat.succ_pos i) hx⟩
  obtain ⟨i,hi⟩:=List.getElem?_of_mem hx
  exact (h i x hi).1
theorem Fg.lt {l:List Ad} (h:Fg l):∀(d i:Nat) (x y:Ad),l[i]?=some x→l[i+d+1]?=some y→x.Am<y.Am
 |0,i,x,y,hx,hy=>h.inc i x y hx hy
 |d+1,i,x,y,hx,hy=>by
  have:=Dt hy
  have hz:l[i+d+1]?=some l[i+d+1]:=List.getElem?_eq_getElem (by omega)
  have h1:=Fg.lt h d i x _ hx hz
  have h2:=h.inc (i+d+1) _ y hz hy
  omega
theorem Fg.lt' {l:List Ad} (h:Fg l) {i j:Nat} {x y:Ad} (hij:i<j) (hx:l[i]?=some x) (hy:l[j]?=some y):x.Am<y.Am:=
 h.lt (j-i-1) i x y hx (by rw [show i+(j-i-1)+1=j by omega];exact hy)
theorem Fg.le' {l:List Ad} (h:Fg l) {i j:Nat} {x y:Ad} (hij:i≤j) (hx:l[i]?=some x) (hy:l[j]?=some y):x.Am≤y.Am:=by
 rcases Nat.eq_or_lt_of_le hij with rfl|h'
 ·rw [hx] at hy;cases hy;exact Int.le_refl _
 ·exact Int.le_of_lt (h.lt' h' hx hy)
theorem half {a b:Nat} (h:a+b<2000):IntKind.wrap .i64 (Int.fdiv (IntKind.wrap .u64 (IntKind.wrap .i64 ((a:Int)+(b:Int)))) 2)=(((a+b) / 2:Nat):Int):=by
 rw [wrap64 (z:=(a:Int)+(b:Int)) (by omega) (by omega)]
 have e:IntKind.wrap .u64 ((a:Int)+(b:Int))=(a:Int)+(b:Int):=IntWalk.u64_in _ (by omega)
 rw [e,Int.fdiv_eq_ediv_of_nonneg _ (by decide),wrap64 (by omega) (by omega)]
 omega
theorem tB (n:Nat) (hn:64<n) (l:List Ad) (h:Fg l) (t:Int) (ht: -1000000≤t∧t≤1000000):
  ∃i:Nat,i≤l.length∧(∀j x,j<i→l[j]?=some x→x.Am<t)∧(∀j x,i≤j→l[j]?=some x→t≤x.Am)∧∃b,rE n l t=some ((i:Int),b)∧(b=true↔∃x,l[i]?=some x∧x.Am=t):=by
 have hlen:=h.len
 have cmp:∀x∈l,gO n x t=some (x.Am-t):=fun x hx=>by
  have:=(h.nodes x hx)
  unfold gO
  rw [wrap64 (by have:=this.1;omega) (by have:=this.2.1;omega)]
 obtain ⟨r,hr,i,hi,h1,h2,h3,h4⟩:=Cb (S:=fun y:Int×Int=>Og n l t 0 false (l.length:Int) y.1 y.2)
  (fun z=>∃a b:Nat,z=((a:Int),(b:Int))∧a≤b∧b≤l.length∧(∀j x,j<a→l[j]?=some x→x.Am<t)∧∀j x,b≤j→l[j]?=some x→t≤x.Am)
  (fun r=>∃i:Nat,i≤l.length∧(∀j x,j<i→l[j]?=some x→x.Am<t)∧(∀j x,i≤j→l[j]?=some x→t≤x.Am)∧r.1=(i:Int)∧(r.2=true↔∃x,l[i]?=some x∧x.Am=t))
  (fun z=>(z.2-z.1).toNat) (by
   rintro _ ⟨a,b,rfl,hab,hb,hlo,hhi⟩
   simp only []
   unfold Og
   rcases Nat.eq_or_lt_of_le hab with rfl|hlt
   ·right
    rw [decide_eq_false (show ¬(a:Int)<(a:Int) from Int.lt_irrefl _),cond_false]
    rcases Nat.lt_or_ge a l.length with hal|hal
    ·have hx:l[a]?=some l[a]:=List.getElem?_eq_getElem hal
     have hz:=h.nodes _ (List.getElem_mem hal)
     rw [decide_eq_true (show (a:Int)<(l.length:Int) by omega),cond_true,Bv hx,Option.bind_some,cmp _ (List.getElem_mem hal),Option.bind_some]
     refine ⟨_,rfl,a,by omega,hlo,hhi,rfl,?_⟩
     show ((l[a].Am-t==0)=true)↔_
     rw [beq_iff_eq]
     exact ⟨fun e=>⟨_,hx,by omega⟩,fun ⟨x,e,e2⟩=>by rw [hx] at e;cases e;omega⟩
    ·rw [decide_eq_false (show ¬(a:Int)<(l.length:Int) by omega),cond_false]
     refine ⟨_,rfl,a,by omega,hlo,hhi,rfl,?_⟩
     show (false=true)↔_
     simp only [Bool.false_eq_true,false_iff]
     rintro ⟨x,e,-⟩
     have:=Dt e;omega
   ·left
    rw [decide_eq_true (show (a:Int)<(b:Int) by omega),cond_true,half (by omega)]
    have hm:(a+b) / 2<l.length:=by omega
    have hx:l[(a+b) / 2]?=some l[(a+b) / 2]:=List.getElem?_eq_getElem hm
    rw [Bv hx,Option.bind_some,cmp _ (List.getElem_mem hm),Option.bind_some]
    by_cases hc:l[(a+b) / 2].Am-t<0
    ·rw [decide_eq_true hc,cond_true,wS (by omega)]
     refine ⟨_,rfl,⟨(a+b) / 2+1,b,rfl,by omega,hb,fun j x hj hxj=> ?_,hhi⟩,by simp only [];omega⟩
     have:=h.le' (show j≤(a+b) / 2 by omega) hxj hx
     omega
    ·rw [decide_eq_false hc,cond_false]
     refine ⟨_,rfl,⟨a,(a+b) / 2,rfl,by omega,by omega,hlo,fun j x hj hxj=> ?_⟩,by simp only [];omega⟩
     have:=h.le' hj hx hxj
     omega) n (0,(l.length:Int)) ⟨0,l.length,rfl,Nat.zero_le _,Nat.le_refl _,fun j x hj=>absurd hj (Nat.not_lt_zero _),fun j x hj hx=>absurd (Dt hx) (Nat.not_lt_of_le hj)⟩ (by simp only [];omega)
 refine ⟨i,hi,h1,h2,r.2,?_,h4⟩
 unfold rE
 rw [hr,← h3]
theorem Px (n:Nat) (a b:Int):∃r,aU n a b=some r∧(r.2=0→b≠0):=by
 unfold aU
 by_cases hb:b=0
 ·rw [show (b==0)=true from beq_iff_eq.2 hb,cond_true];exact ⟨_,rfl,fun h=>by cases h⟩
 rw [show (b==0)=false from beq_eq_false_iff_ne.2 hb,cond_false]
 have hd:sJ a b=some (a.tdiv b):=by simp [sJ,hb]
 have hm:Nh a b=some (a.tmod b):=by simp [Nh,hb]
 rw [hd,hm]
 simp only [Option.bind_some,cond_eq_ite]
 repeat' split
 all_goals exact ⟨_,rfl,fun _=>hb⟩
theorem wP (n:Nat) (a b:Int):∃r,iH n a b=some r:=by
 unfold iH
 obtain ⟨r,hr,h0⟩:=Px n a b
 rw [hr,Option.bind_some]
 by_cases h:r.2=0
 ·have hb:=h0 h
  have hm:Nh a b=some (a.tmod b):=by simp [Nh,hb]
  rw [show (r.2==0)=true from beq_iff_eq.2 h,cond_true,hm,Option.bind_some]
  simp only [cond_eq_ite]
  split<;>exact ⟨_,rfl⟩
 ·rw [show (r.2==0)=false from beq_eq_false_iff_ne.2 h,cond_false];exact ⟨_,rfl⟩
theorem iB (n:Nat) (a b:TP) (c d:Int):∃r,o9 n a b c d=some r:=by
 unfold o9
 simp only [cond_eq_ite]
 obtain ⟨r1,h1,-⟩:=Px n (IntKind.wrap .i64 ((IntKind.wrap .i64 (b.X-a.X))*c)) d
 obtain ⟨r2,h2,-⟩:=Px n (IntKind.wrap .i64 ((IntKind.wrap .i64 (b.Y-a.Y))*c)) d
 rw [h1,h2]
 rcases Uc n a with ⟨e,-⟩|⟨e,-⟩<;>rw [e]<;>simp only [Option.bind_some]<;>rcases Uc n b with ⟨e2,-⟩|⟨e2,-⟩<;>(try rw [e2])<;>simp only [Option.bind_some]<;>repeat' split
 all_goals exact ⟨_,rfl⟩
theorem Aii (n:Nat) (hn:64<n) (l:List Ad) (h:Fg l) (t:Int) (x0 x1:Ad) (h0:l[0]?=some x0) (h1:l[l.length-1]?=some x1) (ht0:x0.Am≤t) (ht1:t≤x1.Am):∃r,g59 n l t=some r:=by
 have hp:=h.pos
 have b0:=h.nodes x0 (List.mem_of_getElem? h0)
 have b1:=h.nodes x1 (List.mem_of_getElem? h1)
 obtain ⟨i,hi,k1,k2,b,hb,hbt⟩:=tB n hn l h t (by have:=b0.1;have:=b1.2.1;omega)
 unfold g59
 rw [hb,Option.bind_some]
 cases b with
 |true=>
  obtain ⟨x,hx,-⟩:=hbt.1 rfl
  simp only [cond_true]
  rw [Bv hx];exact ⟨_,rfl⟩
 |false=>
  simp only [cond_false]
  have hil:i<l.length:=by
   rcases Nat.lt_or_ge i l.length with h'|h'
   ·exact h'
   ·have:=k1 (l.length-1) x1 (by omega) h1;omega
  have hi0:0<i:=by
   rcases Nat.eq_zero_or_pos i with rfl|h'
   ·have:=k2 0 x0 (Nat.le_refl _) h0
    have:=hbt.2 ⟨x0,h0,by omega⟩
    cases this
   ·exact h'
  have ha:l[i-1]?=some l[i-1]:=List.getElem?_eq_getElem (by omega)
  have hb':l[i]?=some l[i]:=List.getElem?_eq_getElem hil
  have hw:IntKind.wrap .i64 ((i:Int)-1)=((i-1:Nat):Int):=by have:=h.len;rw [wrap64 (by omega) (by omega)];omega
  rw [hw,Bv ha,Bv hb']
  simp only [Option.bind_some]
  obtain ⟨q1,e1⟩:=iB n (⟨l[i-1].A5,l[i-1].A6⟩:TP) (⟨l[i].A5,l[i].A6⟩:TP) (IntKind.wrap .i64 (t-l[i-1].Am)) (IntKind.wrap .i64 (l[i].Am-l[i-1].Am))
  rw [e1,Option.bind_some]
  obtain ⟨q2,e2,-⟩:=Px n (IntKind.wrap .i64 ((IntKind.wrap .i64 (l[i].Ar-l[i-1].Ar))*(IntKind.wrap .i64 (t-l[i-1].Am)))) (IntKind.wrap .i64 (l[i].Am-l[i-1].Am))
  rw [e2,Option.bind_some]
  obtain ⟨q3,e3⟩:=wP n (IntKind.wrap .i64 ((IntKind.wrap .i64 (l[i].Bl-l[i-1].Bl))*(IntKind.wrap .i64 (t-l[i-1].Am)))) (IntKind.wrap .i64 (l[i].Am-l[i-1].Am))
  rw [e3,Option.bind_some]
  obtain ⟨q4,e4⟩:=wP n (IntKind.wrap .i64 ((IntKind.wrap .i64 (l[i].Co-l[i-1].Co))*(IntKind.wrap .i64 (t-l[i-1].Am)))) (IntKind.wrap .i64 (l[i].Am-l[i-1].Am))
  rw [e4,Option.bind_some]
  exact ⟨_,rfl⟩
def Ah7:Ad:=⟨0,0,0,0,0,0⟩
theorem vC (n:Nat) (hn:64<n) (l:List Ad) (h:Fg l) (hc:eA n l=some 0) (t:Int) (x0 x1:Ad) (h0:l[0]?=some x0) (h1:l[l.length-1]?=some x1):
  (x0.Am≤t∧t≤x1.Am∧∃r,g59 n l t=some r∧g15 n l t=some (r,0))∨((t<x0.Am∨x1.Am<t)∧g15 n l t=some (Ah7,12)):=by
 have hp:=h.pos
 have hl:=h.len
 unfold g15 g58
 have hw:IntKind.wrap .i64 ((l.length:Int)-1)=((l.length-1:Nat):Int):=by rw [wrap64 (by omega) (by omega)];omega
 have g0:Cd l 0=some x0:=Bv (i:=0) h0
 rw [hc,Option.bind_some,show ((0:Int) !=0)=false from rfl,cond_false,hw,Bv h1,g0]
 simp only [Option.bind_some]
 by_cases a1:t<x0.Am
 ·rw [decide_eq_true a1,cond_true];exact .inr ⟨.inl a1,rfl⟩
 rw [decide_eq_false a1,cond_false]
 by_cases a2:t>x1.Am
 ·rw [decide_eq_true a2,cond_true];exact .inr ⟨.inr a2,rfl⟩
 rw [decide_eq_false a2,cond_false]
 obtain ⟨r,hr⟩:=Aii n hn l h t x0 x1 h0 h1 (by omega) (by omega)
 exact .inl ⟨by omega,by omega,r,hr,by rw [hr];rfl⟩
theorem gW (n:Nat) (hn:4500<n) (l:List Au) (ts:List (List Ad)):∃z,g41 n l ts=some z∧(z=0→fA l∧ts.length≤24∧∀t∈ts,eA n t=some 0∧Fg t):=by
 obtain ⟨z,hz,kz⟩:=sH n hn l
 unfold g41
 rw [hz,Option.bind_some]
 by_cases z0:z=0
 case neg=>rw [bne_iff_ne.2 z0,cond_true];exact ⟨z,rfl,fun h=>absurd h z0⟩
 rw [z0,show ((0:Int) !=0)=false from rfl,cond_false]
 by_cases hl:(ts.length:Int)>24
 ·rw [decide_eq_true hl,cond_true];exact ⟨2,rfl,fun h=>by cases h⟩
 rw [decide_eq_false hl,cond_false]
 obtain ⟨r,hr,hq⟩:=Rh (S:=fun y:Int=>Lv n (0) ts (ts.length:Int) y) ts (fun _ t=>eA n t=some 0∧Fg t) (fun r=>r≠0) 0 (fun i t ht=>by
  have:=Dt ht
  show (Lv n (0) ts (ts.length:Int) (i:Int)=_∧_)∨∃r,Lv n (0) ts (ts.length:Int) (i:Int)=some (.inr r)∧r≠0
  unfold Lv
  rw [decide_eq_true (show (i:Int)<_ by omega),cond_true,Bv ht,Option.bind_some,wS (by omega)]
  rcases qU n (by omega) t with ⟨hc,htk⟩|⟨y,hy,hc⟩
  ·rw [hc];exact .inl ⟨rfl,rfl,htk⟩
  ·rw [hc,Option.bind_some,bne_iff_ne.2 hy];exact .inr ⟨y,rfl,hy⟩) (by
  show Lv n (0) ts (ts.length:Int) (ts.length:Int)=_
  unfold Lv
  rw [decide_eq_false (Int.lt_irrefl _)];rfl) n (by omega)
 refine ⟨r,hr,fun h0=> ?_⟩
 rcases hq with k|⟨-,k⟩
 ·exact absurd h0 k
 ·refine ⟨kz z0,by omega,fun t ht=> ?_⟩
  obtain ⟨i,hi⟩:=List.getElem?_of_mem ht
  exact k i t hi
theorem X3 (n:Nat) (hn:64<n) (t:List Ad) (hc:eA n t=some 0) (ht:Fg t) (u:Int):(∃r,g15 n t u=some (r,0))∨g15 n t u=some (Ah7,12):=by
 have hp:=ht.pos
 have h0:t[0]?=some t[0]:=List.getElem?_eq_getElem (by omega)
 have h1:t[t.length-1]?=some t[t.length-1]:=List.getElem?_eq_getElem (by omega)
 rcases vC n hn t ht hc u _ _ h0 h1 with ⟨-,-,r,-,e⟩|⟨-,e⟩
 ·exact .inl ⟨r,e⟩
 ·exact .inr e
def Si (n:Nat) (u:Int) (t:List Ad):Bool:=match g15 n t u with|some r=>r.2==0|none=>false
theorem nD:∀(L:List Int) (k:Nat) (x:Int),L[k]?=some x→(L.set k (x+1)).sum=L.sum+1
 |[],k,x,h=>by simp at h
 |y::r,0,x,h=>by
  simp only [List.getElem?_cons_zero,Option.some.injEq] at h
  subst h
  simp only [List.set_cons_zero,List.sum_cons];omega
 |y::r,k+1,x,h=>by
  have:=nD r k x (by simpa using h)
  simp only [List.set_cons_succ,List.sum_cons,this];omega
theorem nK:∀m:Nat,(List.replicate m (0:Int)).sum=0
 |0=>rfl
 |m+1=>by rw [List.replicate_succ,List.sum_cons,nK m];rfl
theorem Xm (n:Nat) (hn:4500<n) (l:List Au) (hl:fA l) (ts:List (List Ad)) (hts:ts.length≤24) (hok:∀t∈ts,eA n t=some 0∧Fg t) (u:Int):
  ∃(L:List Int) (o:Int),g42 n l ts u=some (L,o)∧L.length=l.length∧(∀x∈L,0≤x∧x≤24)∧0≤o∧o≤24∧L.sum+o=(ts.countP (Si n u):Int):=by
 have hlen:=hl.len
 unfold g42
 have hm:e9 (l.length:Int) 8=some l.length:=by
  unfold e9
  rw [if_pos ⟨by omega,by omega,by omega⟩];simp
 rw [hm,Option.bind_some]
 obtain ⟨r,hr,hQ⟩:=Cb (S:=fun y:Int×Int×List Int=>Qa n l u (0) ts (ts.length:Int) y.1 y.2.1 y.2.2) (fun y=>∃(i:Nat) (L:List Int) (o:Int),y=(o,(i:Int),L)∧i≤ts.length∧L.length=l.length∧(∀x∈L,0≤x∧x≤(i:Int))∧0≤o∧o≤(i:Int)∧L.sum+o=((ts.take i).countP (Si n u):Int))
  (fun r=>r.1.length=l.length∧(∀x∈r.1,0≤x∧x≤24)∧0≤r.2∧r.2≤24∧r.1.sum+r.2=(ts.countP (Si n u):Int)) (fun y=>ts.length-y.2.1.toNat) (by
  rintro _ ⟨i,L,o,rfl,hi,h1,h2,h3,h4,h5⟩
  show (∃y,Qa n l u (0) ts (ts.length:Int) o (i:Int) L=some (.inl y)∧_∧_)∨∃r,Qa n l u (0) ts (ts.length:Int) o (i:Int) L=some (.inr r)∧_
  unfold Qa
  rcases Nat.lt_or_ge i ts.length with hlt|hge
  ·left
   have hx:ts[i]?=some ts[i]:=List.getElem?_eq_getElem hlt
   generalize ts[i]=t at hx
   obtain ⟨hc,htk⟩:=hok t (List.mem_of_getElem? hx)
   have hms:ts.length-((i+1:Nat):Int).toNat<ts.length-(i:Int).toNat:=by omega
   rw [decide_eq_true (show (i:Int)<_ by omega),cond_true,Bv hx,Option.bind_some,wS (by omega)]
   rcases X3 n (by omega) t hc htk u with ⟨q,hq⟩|hq
   ·have hh:Si n u t=true:=by unfold Si;rw [hq];rfl
    have hcnt:((ts.take (i+1)).countP (Si n u):Int)=((ts.take i).countP (Si n u):Int)+1:=by rw [take_one hx,List.countP_append];simp [hh]
    obtain ⟨k,hk,k1,k2⟩:=pJ n hn l hl (⟨q.A5,q.A6⟩:TP) q.Ar
    rw [hq,Option.bind_some]
    simp only [show ((0:Int) !=0)=false from rfl,cond_false]
    rw [hk,Option.bind_some]
    by_cases hk0:k≥0
    ·obtain ⟨k',rfl⟩:∃k':Nat,k=(k':Int):=⟨k.toNat,by omega⟩
     have hy:L[k']?=some L[k']:=List.getElem?_eq_getElem (by omega)
     generalize L[k']=x at hy
     have hxb:=h2 x (List.mem_of_getElem? hy)
     rw [decide_eq_true hk0,cond_true,Bv hy,Option.bind_some,Option.bind_some,Int.toNat_natCast,wrap64 (z:=x+1) (by omega) (by omega)]
     refine ⟨_,rfl,⟨i+1,_,o,rfl,hlt,by rw [List.length_set];exact h1,fun z hz=> ?_,h3,by omega,?_⟩,hms⟩
     ·rcases List.mem_or_eq_of_mem_set hz with k|k
      ·have:=h2 z k;omega
      ·omega
     ·rw [nD L k' x hy,hcnt];omega
    ·rw [decide_eq_false hk0,cond_false,wrap64 (z:=o+1) (by omega) (by omega)]
     exact ⟨_,rfl,⟨i+1,L,o+1,rfl,hlt,h1,fun z hz=>by have:=h2 z hz;omega,by omega,by omega,by rw [hcnt];omega⟩,hms⟩
   ·have hh:Si n u t=false:=by unfold Si;rw [hq];rfl
    have hcnt:((ts.take (i+1)).countP (Si n u):Int)=((ts.take i).countP (Si n u):Int):=by rw [take_one hx,List.countP_append];simp [hh]
    rw [hq,Option.bind_some]
    simp only [show ((12:Int) !=0)=true from rfl,cond_true]
    exact ⟨_,rfl,⟨i+1,L,o,rfl,hlt,h1,fun z hz=>by have:=h2 z hz;omega,h3,by omega,by rw [hcnt];exact h5⟩,hms⟩
  ·right
   have hi':i=ts.length:=by omega
   subst hi'
   rw [decide_eq_false (Int.lt_irrefl _),cond_false]
   refine ⟨_,rfl,h1,fun x hx=>by have:=h2 x hx;omega,h3,by omega,?_⟩
   rw [List.take_length] at h5
   exact h5) n ((0),(0),(List.replicate l.length (0))) ⟨0,_,0,rfl,Nat.zero_le _,by simp,fun x hx=>by rw [List.eq_of_mem_replicate hx];simp,Int.le_refl _,Int.le_refl _,by rw [nK];rfl⟩ (by show ts.length-(0:Int).toNat<n;omega)
 obtain ⟨q1,q2,q3,q4,q5⟩:=hQ
 exact ⟨r.1,r.2,hr,q1,q2,q3,q4,q5⟩
theorem gD (n:Nat) (hn:4500<n) (l:List Au) (ts:List (List Ad)) (u:Int):(∃z,z≠0∧g5 n l ts u=some ([],0,z))∨(fA l∧ts.length≤24∧(∀t∈ts,eA n t=some 0∧Fg t)∧∃(L:List Int) (o:Int),g42 n l ts u=some (L,o)∧g5 n l ts u=some (L,o,0)):=by
 obtain ⟨z,hz,kz⟩:=gW n hn l ts
 unfold g5
 rw [hz,Option.bind_some]
 by_cases z0:z=0
 case neg=>rw [bne_iff_ne.2 z0,cond_true];exact .inl ⟨z,z0,rfl⟩
 obtain ⟨k1,k2,k3⟩:=kz z0
 rw [z0,show ((0:Int) !=0)=false from rfl,cond_false]
 by_cases u0:u<0
 ·rw [decide_eq_true u0,cond_true];exact .inl ⟨12,by decide,rfl⟩
 by_cases u1:u>200000
 ·rw [decide_eq_false u0,cond_false,decide_eq_true u1,cond_true];exact .inl ⟨12,by decide,rfl⟩
 obtain ⟨L,o,e,-⟩:=Xm n hn l k1 ts k2 k3 u
 rw [decide_eq_false u0,decide_eq_false u1,cond_false,cond_false,e]
 exact .inr ⟨k1,k2,k3,L,o,rfl,rfl⟩
theorem qP (n:Nat) (l:List Au) (a:ByteArray) (b:List Al) (hl:l.length<n) (hl2:l.length≤1000):∃r,cO n l a b=some r∧(r=false↔∀s∈l,s.Name.toList≠a.toList):=by
 have e:=Jb (fun s:Au=>s.Name.toList==a.toList) l (by omega) (S:=fun y:Int=>Dv n l a b (0) (l.length:Int) y) (fun i s hs=>by
  have:=Dt hs
  show Dv n l a b (0) (l.length:Int) (i:Int)=_
  unfold Dv pI
  rw [decide_eq_true (show (i:Int)<_ by omega),cond_true,Bv hs,Option.bind_some,Option.bind_some,wS (by omega)]
  cases s.Name.toList==a.toList<;>rfl) (by
  show Dv n l a b (0) (l.length:Int) (l.length:Int)=_
  unfold Dv
  rw [decide_eq_false (Int.lt_irrefl _)];rfl) n (by omega)
 unfold cO Rt
 rw [e,Option.bind_some]
 refine ⟨_,rfl,?_⟩
 have h:=Mb (fun s:Au=>s.Name.toList==a.toList) l
 generalize Dq (fun s:Au=>s.Name.toList==a.toList) l=k at h ⊢
 constructor
 ·intro hh s hs
  have hh:¬(k≥0):=of_decide_eq_false hh
  exact beq_eq_false_iff_ne.1 (h.1 (by omega) s hs)
 ·intro hh
  have:=h.2 fun s hs=>beq_eq_false_iff_ne.2 (hh s hs)
  exact decide_eq_false (show ¬(k≥0) by omega)
def Oj (s t:Au):Prop:=s.Name.toList≠t.Name.toList
theorem yT (n:Nat) (hn:4500<n) (l:List Au) (hl:l.length≤12) (i:Nat) (hi:i<l.length) (c19:Int) (s:Au) (hR:s.Room.length≤4) (hR0:s.Room≠[]) (L:List Al) (hL:L.length≤100):
  ∃r,A7 (fun y:Int×List Al=>Ej n l 0 (i:Int) c19 s.Room (s.Room.length:Int) s.Name y.1 y.2) n ((0),L)=some r∧((r=.inl (((i+1:Nat):Int),L++s.Room)∧(∀v∈s.Room,Vt n v=some 0)∧∀t∈l.take i,Oj t s)∨∃z,z≠0∧r=.inr z∧¬((∀v∈s.Room,Vt n v=some 0)∧∀t∈l.take i,Oj t s)):=by
 refine Cb (S:=fun y:Int×List Al=>Ej n l 0 (i:Int) c19 s.Room (s.Room.length:Int) s.Name y.1 y.2) (fun y=>∃j:Nat,y=((j:Int),L)∧j≤s.Room.length∧∀(k:Nat) (v:Al),k<j→s.Room[k]?=some v→Vt n v=some 0) _ (fun y=>s.Room.length-y.1.toNat) ?_ n ((0),L) ⟨0,rfl,Nat.zero_le _,fun k v h=>absurd h (Nat.not_lt_zero _)⟩ (by show s.Room.length-(0:Int).toNat<n;omega)
 rintro _ ⟨j,rfl,hj,hv⟩
 show (∃y,Ej n l 0 (i:Int) c19 s.Room (s.Room.length:Int) s.Name (j:Int) L=some (.inl y)∧_∧_)∨∃r,Ej n l 0 (i:Int) c19 s.Room (s.Room.length:Int) s.Name (j:Int) L=some (.inr r)∧_
 unfold Ej
 rcases Nat.lt_or_ge j s.Room.length with hlt|hge
 ·have hx:s.Room[j]?=some s.Room[j]:=List.getElem?_eq_getElem hlt
  generalize s.Room[j]=x at hx
  obtain ⟨z,hz,kz⟩:=Nf n x (by omega)
  rw [decide_eq_true (show (j:Int)<_ by omega),cond_true,Bv hx,Option.bind_some,hz,Option.bind_some,wS (by omega)]
  by_cases h:z=0
  ·subst h
   refine .inl ⟨_,rfl,⟨j+1,rfl,hlt,fun k v hk hkv=> ?_⟩,by show s.Room.length-((j+1:Nat):Int).toNat<s.Room.length-(j:Int).toNat;omega⟩
   by_cases e:k=j
   ·subst e;rw [hx] at hkv;cases hkv;exact hz
   ·exact hv k v (by omega) hkv
  ·rw [bne_iff_ne.2 h,cond_true]
   refine .inr ⟨_,rfl,.inr ⟨z,h,rfl,fun hh=> ?_⟩⟩
   have:=hh.1 x (List.mem_of_getElem? hx)
   rw [hz] at this
   exact h (Option.some.inj this)
 ·have htl:(l.take i).length≤12:=by rw [List.length_take];omega
  obtain ⟨b,hb,hbm⟩:=qP n (l.take i) s.Name s.Room (by omega) (by omega)
  have hne:neO s.Room=some ():=by
   cases hR':s.Room with
   |nil=>exact absurd hR' hR0
   |cons _ _=>rfl
  rw [decide_eq_false (show ¬(j:Int)<_ by omega),cond_false,O4 l i (by omega),Option.bind_some,hb,Option.bind_some]
  cases b with
  |true=>
   refine .inr ⟨_,rfl,.inr ⟨7,by decide,rfl,fun hh=> ?_⟩⟩
   have:=hbm.2 hh.2
   cases this
  |false=>
   rw [cond_false,hne,Option.bind_some,Hj (by omega) (by omega),Option.bind_some,wS (by omega)]
   refine .inr ⟨_,rfl,.inl ⟨rfl,fun v hv'=> ?_,hbm.1 rfl⟩⟩
   obtain ⟨k,hk⟩:=List.getElem?_of_mem hv'
   exact hv k v (by have:=Dt hk;omega) hk
theorem xO {l:List Au} {i:Nat} {s:Au} (hx:l[i]?=some s) (h:(l.take i).Pairwise Oj) (hs:∀t∈l.take i,Oj t s):(l.take (i+1)).Pairwise Oj:=by
 rw [take_one hx,List.pairwise_append]
 exact ⟨h,List.pairwise_singleton _ _,fun a ha b hb=>by rw [List.mem_singleton.1 hb];exact hs a ha⟩
theorem rU (n:Nat) (hn:4500<n) (l:List Au):∃z,fB n l=some z∧(z=0→(∀s∈l,aE n s.Name=some true)∧l.Pairwise Oj):=by
 unfold fB
 by_cases h1:(l.length:Int)>12
 ·rw [decide_eq_true h1,cond_true];exact ⟨2,rfl,fun h=>by cases h⟩
 rw [decide_eq_false h1,cond_false]
 refine Cb (S:=fun y:Int×List Al=>G6 n l 0 (l.length:Int) y.1 y.2) (fun y=>∃(i:Nat) (L:List Al),y=((i:Int),L)∧i≤l.length∧L.length≤4*i∧(∀(k:Nat) (s:Au),k<i→l[k]?=some s→aE n s.Name=some true)∧(l.take i).Pairwise Oj) _ (fun y=>l.length-y.1.toNat) ?_ n ((0),[]) ⟨0,[],rfl,Nat.zero_le _,Nat.zero_le _,fun k v h=>absurd h (Nat.not_lt_zero _),List.Pairwise.nil⟩ (by show l.length-(0:Int).toNat<n;omega)
 rintro _ ⟨i,L,rfl,hi,hL,hv,hp⟩
 show (∃y,G6 n l 0 (l.length:Int) (i:Int) L=some (.inl y)∧_∧_)∨∃r,G6 n l 0 (l.length:Int) (i:Int) L=some (.inr r)∧_
 unfold G6
 rcases Nat.lt_or_ge i l.length with hlt|hge
 ·have hx:l[i]?=some l[i]:=List.getElem?_eq_getElem hlt
  generalize l[i]=x at hx
  obtain ⟨b,hb⟩:=Xf n (by omega) x.Name
  rw [decide_eq_true (show (i:Int)<_ by omega),cond_true,Bv hx,Option.bind_some,hb,Option.bind_some]
  cases b with
  |false=>exact .inr ⟨_,rfl,fun h=>by cases h⟩
  |true=>
  rw [Bool.not_true,cond_false]
  by_cases h0:(x.Room.length:Int)=0
  ·rw [beq_iff_eq.2 h0,cond_true];exact .inr ⟨_,rfl,fun h=>by cases h⟩
  by_cases h4:(x.Room.length:Int)>4
  ·rw [beq_eq_false_iff_ne.2 h0,cond_false,decide_eq_true h4,cond_true];exact .inr ⟨_,rfl,fun h=>by cases h⟩
  rw [beq_eq_false_iff_ne.2 h0,cond_false,decide_eq_false h4,cond_false]
  obtain ⟨r,hr,⟨rfl,-,hnm⟩|⟨z,hz,rfl,-⟩⟩:=yT n hn l (by omega) i hlt (l.length:Int) x (by omega) (fun e=>h0 (by rw [e];rfl)) L (by omega)
  ·refine .inl ⟨_,hr,⟨i+1,L++x.Room,rfl,hlt,by rw [List.length_append];omega,fun k s hk hks=> ?_,xO hx hp hnm⟩,by show l.length-((i+1:Nat):Int).toNat<l.length-(i:Int).toNat;omega⟩
   by_cases e:k=i
   ·subst e;rw [hx] at hks;cases hks;exact hb
   ·exact hv k s (by omega) hks
  ·exact .inr ⟨z,hr,fun h=>absurd h hz⟩
 ·obtain ⟨z,hz⟩:=Uk n hn L (by omega)
  rw [decide_eq_false (show ¬(i:Int)<_ by omega),cond_false,hz]
  refine .inr ⟨z,rfl,fun _=>⟨fun s hs=> ?_,by rwa [List.take_of_length_le hge] at hp⟩⟩
  obtain ⟨k,hk⟩:=List.getElem?_of_mem hs
  exact hv k s (by have:=Dt hk;omega) hk
end Go.Proofs.YtmechmjjcgdpdaaGreatDoor
