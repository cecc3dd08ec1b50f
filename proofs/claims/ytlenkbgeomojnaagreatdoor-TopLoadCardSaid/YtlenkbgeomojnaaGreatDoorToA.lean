/- Parts Sc1, Sc2, Sc3, Sc4. -/
import Derived.Test.YtlenkbgeomojnaaGreatDoorX1G
import Derived.Test.YtlenkbgeomojnaaGreatDoorMath2
set_option linter.unusedVariables false
set_option linter.unusedSimpArgs false
namespace Go.Proofs.YtlenkbgeomojnaaGreatDoor
def POk (p:TP):Prop:= -1000000≤p.X∧p.X≤1000000∧-1000000≤p.Y∧p.Y≤1000000
theorem pcheck (n:Nat) (p:TP):(g70 n p=some 0∧POk p)∨(g70 n p=some 4∧¬POk p):=by
 unfold g70 POk
 simp only [cond_eq_ite,decide_eq_true_eq]
 repeat' split
 all_goals first|(right;exact ⟨rfl,by omega⟩)|(left;exact ⟨rfl,by omega⟩)
/- that something is answered -/
theorem bif_tot {α:Type} {b:Bool} {x y:Option α} (hx:∃r,x=some r) (hy:∃r,y=some r):∃r,(bif b then x else y)=some r:=by cases b<;>assumption
theorem bind_tot {α β:Type} {x:Option α} {f:α→Option β} (hx:∃a,x=some a) (hf:∀a,∃r,f a=some r):∃r,x.bind f=some r:=by
 obtain ⟨a,rfl⟩:=hx
 exact hf a
theorem getI_tot {α:Type} {l:List α} {i:Nat} (h:i<l.length):∃x,getI l (i:Int)=some x:=⟨_,getI_at (List.getElem?_eq_getElem h)⟩
/- a loop over numbers that goes on by one, or ends -/
theorem iter_tot {ρ:Type} {S:Int→Option (Int⊕ρ)} (len:Nat) (h:∀i:Nat,i<len→S (i:Int)=some (.inl ((i+1:Nat):Int))∨∃r,S (i:Int)=some (.inr r)) (h0:∀i:Nat,len≤i→∃r,S (i:Int)=some (.inr r)) (n start:Nat) (hn:len-start<n):∃r,iterO S n (start:Int)=some r:=by
 obtain ⟨r,hr,-⟩:=iterO_rule (S:=S) (fun x=>∃i:Nat,x=(i:Int)) (fun _=>True) (fun x=>len-x.toNat) (by
  rintro _ ⟨i,rfl⟩
  rcases Nat.lt_or_ge i len with hlt|hge
  ·rcases h i hlt with k|⟨r,k⟩
   ·exact .inl ⟨_,k,⟨i+1,rfl⟩,by simp;omega⟩
   ·exact .inr ⟨r,k,trivial⟩
  ·obtain ⟨r,k⟩:=h0 i hge
   exact .inr ⟨r,k,trivial⟩) n (start:Int) ⟨start,rfl⟩ (by simpa using hn)
 exact ⟨r,hr⟩
theorem wS2 {i:Nat} (h:i<1000000):IntKind.wrap .i64 ((i:Int)+2)=((i+2:Nat):Int):=wrap64 (by omega) (by omega)
theorem modNat {a b:Nat} (hb:0<b):modO (a:Int) (b:Int)=some ((a % b:Nat):Int):=by
 unfold modO
 rw [if_neg (by omega)]
 congr 1
theorem next_at (n:Nat) (l:List TP) (i:Nat) (h:0<l.length) (hi:i<1000000):∃p,g300 n l (i:Int)=some p∧p∈l:=by
 unfold g300
 rw [wS (by omega),modNat h,Option.bind_some]
 have hlt:(i+1) % l.length<l.length:=Nat.mod_lt _ h
 rw [getI_at (List.getElem?_eq_getElem hlt)]
 exact ⟨_,rfl,List.getElem_mem hlt⟩
theorem sub_val (n:Nat) (a b:TP):g242 n a b=some ⟨IntKind.wrap .i64 (a.X-b.X),IntKind.wrap .i64 (a.Y-b.Y)⟩:=rfl
theorem turn_tot (n:Nat) (a b c:TP):∃z,g299 n a b c=some z:=by
 unfold g299
 exact bind_tot ⟨_,rfl⟩ fun _=>bind_tot ⟨_,rfl⟩ fun _=>bind_tot ⟨_,rfl⟩ fun _=>bif_tot ⟨_,rfl⟩ (bif_tot ⟨_,rfl⟩ ⟨_,rfl⟩)
theorem between_tot (n:Nat) (a b c:TP):∃z,g339 n a b c=some z:=by
 unfold g339
 exact bif_tot (bif_tot (bif_tot ⟨_,rfl⟩ ⟨_,rfl⟩) ⟨_,rfl⟩) ⟨_,rfl⟩
theorem on_tot (n:Nat) (a b c:TP):∃z,g306 n a b c=some z:=by
 unfold g306
 exact bind_tot (turn_tot n _ _ _) fun _=>bif_tot (bind_tot (between_tot n _ _ _) fun _=>⟨_,rfl⟩) ⟨_,rfl⟩
theorem crosses_tot (n:Nat) (a b c d:TP):∃z,g303 n a b c d=some z:=by
 unfold g303
 exact bind_tot (turn_tot n _ _ _) fun _=>bind_tot (turn_tot n _ _ _) fun _=>bif_tot (bind_tot (turn_tot n _ _ _) fun _=>bind_tot (turn_tot n _ _ _) fun _=>⟨_,rfl⟩) ⟨_,rfl⟩
theorem common_tot (n:Nat) (a b c d:TP):∃z,g301 n a b c d=some z:=by
 unfold g301
 exact bind_tot (crosses_tot n _ _ _ _) fun _=>bif_tot ⟨_,rfl⟩ (bind_tot (on_tot n _ _ _) fun _=>bif_tot ⟨_,rfl⟩ (bind_tot (on_tot n _ _ _) fun _=>bif_tot ⟨_,rfl⟩ (bind_tot (on_tot n _ _ _) fun _=>bif_tot ⟨_,rfl⟩ (bind_tot (on_tot n _ _ _) fun _=>⟨_,rfl⟩))))
theorem next_tot (n:Nat) (l:List TP) (i:Nat) (h:i<l.length) (hl:l.length≤1000):∃p,g300 n l (i:Int)=some p:=by
 obtain ⟨p,hp,-⟩:=next_at n l i (by omega) (by omega)
 exact ⟨p,hp⟩
theorem place_tot (n:Nat) (l:List TP) (q:TP) (hl:l.length≤1000) (hn:l.length<n):∃z,g246 n l q=some z:=by
 unfold g246
 obtain ⟨r,hr,-⟩:=iterO_rule (S:=fun y:Int×Int=>S246_0 n l (0) (l.length:Int) q.X q.Y y.1 y.2) (fun y=>∃i:Nat,y.2=(i:Int)∧i≤l.length) (fun _=>True) (fun y=>l.length-y.2.toNat) (by
  rintro ⟨v,_⟩ ⟨i,rfl,hi⟩
  rcases Nat.lt_or_ge i l.length with hlt|hge
  ·obtain ⟨x,hx⟩:=getI_tot hlt
   obtain ⟨y,hy⟩:=next_tot n l i hlt hl
   obtain ⟨b,hb⟩:=on_tot n x y (⟨q.X,q.Y⟩:TP)
   obtain ⟨t,ht⟩:=turn_tot n x y (⟨q.X,q.Y⟩:TP)
   have key:(∃w,S246_0 n l (0) (l.length:Int) q.X q.Y v (i:Int)=some (.inl (w,((i+1:Nat):Int))))∨∃r,S246_0 n l (0) (l.length:Int) q.X q.Y v (i:Int)=some (.inr r):=by
    unfold S246_0
    rw [decide_eq_true (show (i:Int)<_ by omega),cond_true,hx,Option.bind_some,hy,Option.bind_some,hb,Option.bind_some,ht,wS (by omega)]
    simp only [Option.bind_some]
    cases b with
    |true=>exact .inr ⟨_,rfl⟩
    |false=>
     left
     rw [cond_false]
     cases (!((decide (x.Y>q.Y))==(decide (y.Y>q.Y))))<;>cases decide (y.Y>x.Y)<;>cases decide (t>0)<;>cases decide (y.Y<x.Y)<;>cases decide (t<0)<;>exact ⟨_,rfl⟩
   rcases key with ⟨w,k⟩|⟨r,k⟩
   ·exact .inl ⟨_,k,⟨i+1,rfl,hlt⟩,by simp;omega⟩
   ·exact .inr ⟨r,k,trivial⟩
  ·refine .inr ⟨v,?_,trivial⟩
   show S246_0 n l (0) (l.length:Int) q.X q.Y v (i:Int)=_
   unfold S246_0
   rw [decide_eq_false (show ¬(i:Int)<_ by omega)];rfl) n ((-1),(0)) ⟨0,rfl,Nat.zero_le _⟩ (by show l.length-(0:Int).toNat<n;omega)
 exact ⟨r,hr⟩
theorem twice_tot (n:Nat) (l:List TP) (hl:l.length≤1000) (hn:l.length<n):∃z,g302 n l=some z:=by
 unfold g302
 obtain ⟨r,hr,-⟩:=iterO_rule (S:=fun y:Int×Int=>S302_0 n l (0) (l.length:Int) y.1 y.2) (fun y=>∃i:Nat,y.2=(i:Int)∧i≤l.length) (fun _=>True) (fun y=>l.length-y.2.toNat) (by
  rintro ⟨v,_⟩ ⟨i,rfl,hi⟩
  show (∃y,S302_0 n l (0) (l.length:Int) v (i:Int)=some (.inl y)∧_∧_)∨∃r,S302_0 n l (0) (l.length:Int) v (i:Int)=some (.inr r)∧_
  unfold S302_0
  rcases Nat.lt_or_ge i l.length with hlt|hge
  ·obtain ⟨x,hx⟩:=getI_tot hlt
   obtain ⟨y,hy⟩:=next_tot n l i hlt hl
   rw [decide_eq_true (show (i:Int)<_ by omega),cond_true,hx,Option.bind_some,hy,Option.bind_some,wS (by omega)]
   exact .inl ⟨_,rfl,⟨i+1,rfl,hlt⟩,by show l.length-((i+1:Nat):Int).toNat<l.length-(i:Int).toNat;omega⟩
  ·rw [decide_eq_false (show ¬(i:Int)<_ by omega),cond_false]
   exact .inr ⟨_,rfl,trivial⟩) n ((0),(0)) ⟨0,rfl,Nat.zero_le _⟩ (by show l.length-(0:Int).toNat<n;omega)
 exact ⟨r,hr⟩
theorem poly_tail (n:Nat) (l:List TP) (hl:l.length≤16) (h3:3≤l.length) (hn:40<n):∃z,iterO (fun y:Int=>S243_1 n l 0 (l.length:Int) (l.length:Int) y) n 0=some z:=by
 refine iter_tot l.length (fun i hi=> ?_) (fun i hi=> ?_) n 0 (by omega)
 ·obtain ⟨x,hx⟩:=getI_tot hi
  obtain ⟨y,hy⟩:=next_tot n l i hi (by omega)
  have hm:(i+2) % l.length<l.length:=Nat.mod_lt _ (by omega)
  obtain ⟨z,hz⟩:=getI_tot hm
  obtain ⟨t,ht⟩:=turn_tot n x y z
  have inner:∃r,iterO (fun y:Int=>S243_1_0 n l 0 (l.length:Int) (i:Int) (l.length:Int) y) n ((i+2:Nat):Int)=some r∧(r=.inl ((i+1:Nat):Int)∨∃q,r=.inr q):=by
   obtain ⟨r,hr,hq⟩:=iterO_rule (S:=fun y:Int=>S243_1_0 n l 0 (l.length:Int) (i:Int) (l.length:Int) y) (fun y=>∃k:Nat,y=(k:Int)∧k≤l.length+2) (fun r=>r=.inl ((i+1:Nat):Int)∨∃q,r=.inr q) (fun y=>l.length+2-y.toNat) (by
    rintro _ ⟨k,rfl,hk⟩
    show (∃y,S243_1_0 n l 0 (l.length:Int) (i:Int) (l.length:Int) (k:Int)=some (.inl y)∧_∧_)∨∃r,S243_1_0 n l 0 (l.length:Int) (i:Int) (l.length:Int) (k:Int)=some (.inr r)∧_
    unfold S243_1_0
    rcases Nat.lt_or_ge k l.length with hlt|hge
    ·obtain ⟨x2,hx2⟩:=getI_tot hlt
     obtain ⟨y2,hy2⟩:=next_tot n l k hlt (by omega)
     obtain ⟨b,hb⟩:=common_tot n x y x2 y2
     rw [decide_eq_true (show (k:Int)<_ by omega),cond_true,wS (by omega),modNat (by omega),Option.bind_some,hx,hy,hx2,hy2]
     simp only [Option.bind_some]
     rw [hb,Option.bind_some]
     cases (((((k+1) % l.length:Nat)):Int) !=(i:Int))<;>cases b
     all_goals first
      |exact .inl ⟨_,rfl,⟨k+1,rfl,by omega⟩,by show l.length+2-((k+1:Nat):Int).toNat<l.length+2-(k:Int).toNat;omega⟩
      |exact .inr ⟨_,rfl,.inr ⟨_,rfl⟩⟩
    ·rw [decide_eq_false (show ¬(k:Int)<_ by omega),cond_false,wS (by omega)]
     exact .inr ⟨_,rfl,.inl rfl⟩) n ((i+2:Nat):Int) ⟨i+2,rfl,by omega⟩ (by show l.length+2-((i+2:Nat):Int).toNat<n;omega)
   exact ⟨r,hr,hq⟩
  obtain ⟨r,hr,hq⟩:=inner
  show S243_1 n l 0 (l.length:Int) (l.length:Int) (i:Int)=_∨_
  unfold S243_1
  rw [decide_eq_true (show (i:Int)<_ by omega),cond_true,hx,Option.bind_some,hy,Option.bind_some,wS2 (by omega),modNat (by omega),Option.bind_some,hz,Option.bind_some,ht,Option.bind_some,hr]
  cases (t==0) with
  |true=>exact .inr ⟨_,rfl⟩
  |false=>
   rw [cond_false]
   rcases hq with rfl|⟨q,rfl⟩
   ·exact .inl rfl
   ·exact .inr ⟨_,rfl⟩
 ·obtain ⟨z,hz⟩:=twice_tot n l (by omega) (by omega)
  show ∃r,S243_1 n l 0 (l.length:Int) (l.length:Int) (i:Int)=_
  unfold S243_1
  rw [decide_eq_false (show ¬(i:Int)<_ by omega),cond_false,hz,Option.bind_some]
  cases decide (z≤0)<;>exact ⟨_,rfl⟩
structure PolyOk (l:List TP):Prop where
 lo:3≤l.length
 hi:l.length≤16
 pts:∀p∈l,POk p
theorem poly_check (n:Nat) (l:List TP) (hn:40<n):∃z,g243 n l=some z∧(z=0→PolyOk l):=by
 unfold g243
 by_cases h1:(l.length:Int)>16
 ·rw [decide_eq_true h1,cond_true];exact ⟨2,rfl,fun h=>by cases h⟩
 by_cases h2:(l.length:Int)<3
 ·rw [decide_eq_false h1,cond_false,decide_eq_true h2,cond_true];exact ⟨3,rfl,fun h=>by cases h⟩
 rw [decide_eq_false h1,decide_eq_false h2]
 simp only [cond_false]
 obtain ⟨z,hz⟩:=poly_tail n l (by omega) (by omega) hn
 obtain ⟨r,hr,hq⟩:=iter_each (S:=fun y:Int=>S243_0 n l 0 (l.length:Int) y) l (fun _ p=>POk p) (fun r=>r≠0) z (fun i p hp=>by
  have:=some_lt hp
  show (S243_0 n l 0 (l.length:Int) (i:Int)=_∧_)∨∃r,S243_0 n l 0 (l.length:Int) (i:Int)=some (.inr r)∧r≠0
  unfold S243_0
  rw [decide_eq_true (show (i:Int)<(l.length:Int) by omega),cond_true,getI_at hp,Option.bind_some,wS (by omega)]
  rcases pcheck n p with ⟨e,k⟩|⟨e,k⟩
  ·rw [e];exact .inl ⟨rfl,k⟩
  ·rw [e];exact .inr ⟨4,rfl,by decide⟩) (by
  show S243_0 n l 0 (l.length:Int) (l.length:Int)=_
  unfold S243_0
  rw [decide_eq_false (Int.lt_irrefl _),cond_false,hz];rfl) n (by omega)
 refine ⟨r,hr,fun h0=> ?_⟩
 rcases hq with k|⟨-,k⟩
 ·exact absurd h0 k
 ·refine ⟨by omega,by omega,fun p hp=> ?_⟩
  obtain ⟨i,hi⟩:=List.getElem?_of_mem hp
  exact k i p hi
end Go.Proofs.YtlenkbgeomojnaaGreatDoor
set_option linter.unusedVariables false
set_option linter.unusedSimpArgs false
namespace Go.Proofs.YtlenkbgeomojnaaGreatDoor
/- points of one segment at the same distance from its end are one point -/
theorem sq_eq {a b:Int} (h:a*a=b*b) (s:(0≤a∧0≤b)∨(a≤0∧b≤0)):a=b:=by
 have h1:(a-b)*(a+b)=0:=by
  rw [Int.mul_add,Int.sub_mul,Int.sub_mul,Int.mul_comm b a];omega
 rcases Int.mul_eq_zero.1 h1 with k|k
 ·omega
 ·omega
def Seg (u v:TP):Prop:=u.X*v.Y=u.Y*v.X∧((0≤v.X∧v.X≤u.X)∨(u.X≤v.X∧v.X≤0))∧((0≤v.Y∧v.Y≤u.Y)∨(u.Y≤v.Y∧v.Y≤0))
def sqn (v:TP):Int:=v.X*v.X+v.Y*v.Y
theorem mul4 (a b c d:Int):(a*b)*(c*d)=(a*c)*(b*d):=by rw [Int.mul_assoc,Int.mul_left_comm b,← Int.mul_assoc]
theorem seg_mul {a b v w:Int} (h:a*w=b*v):(a*a)*(v*v+w*w)=(v*v)*(a*a+b*b):=by
 have h2:(a*w)*(a*w)=(b*v)*(b*v):=by rw [h]
 have e1:(a*w)*(a*w)=(a*a)*(w*w):=mul4 a w a w
 have e2:(b*v)*(b*v)=(v*v)*(b*b):=by rw [mul4,Int.mul_comm]
 rw [Int.mul_add,Int.mul_add,← e1,h2,e2,Int.mul_comm (a*a) (v*v)]
theorem seg_inj {u v w:TP} (hv:Seg u v) (hw:Seg u w) (h:sqn v=sqn w):v=w:=by
 obtain ⟨v1,v2,v3⟩:=hv
 obtain ⟨w1,w2,w3⟩:=hw
 unfold sqn at h
 have key:∀{a b p q r s:Int},a*q=b*p→a*s=b*r→p*p+q*q=r*r+s*s→a≠0→((0≤p∧p≤a)∨(a≤p∧p≤0))→((0≤r∧r≤a)∨(a≤r∧r≤0))→p=r∧q=s:=by
  intro a b p q r s h1 h2 h3 ha hp hr
  have e1:=seg_mul h1
  have e2:=seg_mul h2
  rw [h3,e2] at e1
  have hs:a*a+b*b≠0:=by
   have q1:0<a*a:=by
    rcases Int.lt_or_gt_of_ne ha with k|k
    ·exact Int.mul_pos_of_neg_of_neg k k
    ·exact Int.mul_pos k k
   have q2:0≤b*b:=by
    rcases Int.le_total 0 b with k|k
    ·exact Int.mul_nonneg k k
    ·exact Int.mul_nonneg_of_nonpos_of_nonpos k k
   omega
  have e3:r*r=p*p:=Int.eq_of_mul_eq_mul_right hs e1
  have e4:r=p:=sq_eq e3 (by omega)
  refine ⟨e4.symm,?_⟩
  rw [e4,← h1] at h2
  exact (Int.eq_of_mul_eq_mul_left ha h2).symm
 by_cases hx:u.X=0
 ·by_cases hy:u.Y=0
  ·cases v;cases w;simp only at*
   congr 1<;>omega
  ·obtain ⟨k1,k2⟩:=key (a:=u.Y) (b:=u.X) (p:=v.Y) (q:=v.X) (r:=w.Y) (s:=w.X) v1.symm w1.symm (by omega) hy v3 w3
   cases v;cases w;simp only at*
   rw [k1,k2]
 ·obtain ⟨k1,k2⟩:=key (a:=u.X) (b:=u.Y) (p:=v.X) (q:=v.Y) (r:=w.X) (s:=w.Y) v1 w1 h hx v2 w2
  cases v;cases w;simp only at*
  rw [k1,k2]
/- points of a doubled polygon -/
def P2 (p:TP):Prop:= -2000000≤p.X∧p.X≤2000000∧-2000000≤p.Y∧p.Y≤2000000
theorem mul_bd {a b:Int} {M:Int} (ha: -M≤a∧a≤M) (hb: -M≤b∧b≤M) (hM:0≤M): -(M*M)≤a*b∧a*b≤M*M:=by
 have h1:0≤(M-a)*(M-b):=Int.mul_nonneg (by omega) (by omega)
 have h2:0≤(M+a)*(M+b):=Int.mul_nonneg (by omega) (by omega)
 have h3:0≤(M-a)*(M+b):=Int.mul_nonneg (by omega) (by omega)
 have h4:0≤(M+a)*(M-b):=Int.mul_nonneg (by omega) (by omega)
 rw [Int.sub_mul,Int.mul_sub,Int.mul_sub] at h1
 rw [Int.add_mul,Int.mul_add,Int.mul_add] at h2
 rw [Int.sub_mul,Int.mul_add,Int.mul_add] at h3
 rw [Int.add_mul,Int.mul_sub,Int.mul_sub] at h4
 rw [Int.mul_comm a M] at*
 constructor<;>omega
def dif (a b:TP):TP:=⟨b.X-a.X,b.Y-a.Y⟩
theorem on_seg (n:Nat) (a b c:TP) (ha:P2 a) (hb:P2 b) (hc:P2 c) (h:g306 n a b c=some true):Seg (dif a b) (dif a c):=by
 obtain ⟨a1,a2,a3,a4⟩:=ha
 obtain ⟨b1,b2,b3,b4⟩:=hb
 obtain ⟨c1,c2,c3,c4⟩:=hc
 unfold g306 g299 at h
 rw [sub_val,sub_val] at h
 simp only [Option.bind_some] at h
 have m1:=mul_bd (a:=b.X-a.X) (b:=c.Y-a.Y) (M:=4000000) (by omega) (by omega) (by decide)
 have m2:=mul_bd (a:=b.Y-a.Y) (b:=c.X-a.X) (M:=4000000) (by omega) (by omega) (by decide)
 unfold g336 at h
 rw [wrap64 (z:=b.X-a.X) (by omega) (by omega),wrap64 (z:=c.Y-a.Y) (by omega) (by omega),wrap64 (z:=b.Y-a.Y) (by omega) (by omega),wrap64 (z:=c.X-a.X) (by omega) (by omega),wrap64 (z:=(b.X-a.X)*(c.Y-a.Y)) (by omega) (by omega),wrap64 (z:=(b.Y-a.Y)*(c.X-a.X)) (by omega) (by omega),wrap64 (by omega) (by omega)] at h
 simp only [Option.bind_some] at h
 by_cases z1:(b.X-a.X)*(c.Y-a.Y)-(b.Y-a.Y)*(c.X-a.X)>0
 ·rw [decide_eq_true z1] at h;simp at h
 by_cases z2:(b.X-a.X)*(c.Y-a.Y)-(b.Y-a.Y)*(c.X-a.X)<0
 ·rw [decide_eq_false z1,decide_eq_true z2] at h;simp at h
 rw [decide_eq_false z1,decide_eq_false z2] at h
 simp only [cond_false,Option.bind_some,show ((0:Int)==0)=true from rfl,cond_true] at h
 refine ⟨by show (b.X-a.X)*(c.Y-a.Y)=(b.Y-a.Y)*(c.X-a.X);omega,?_,?_⟩
 all_goals
  unfold g339 at h
  simp only [cond_eq_ite,decide_eq_true_eq] at h
  show (0≤_ - _∧_)∨_
  unfold dif
  simp only
  repeat' (split at h)
  all_goals simp only [Option.bind_some,Option.some.injEq,decide_eq_true_eq,Bool.false_eq_true] at h
  all_goals (try omega)
theorem seg_self (a b:TP):Seg (dif a b) (dif a a)∧Seg (dif a b) (dif a b):=by
 unfold Seg dif
 simp only [Int.sub_self,Int.mul_zero]
 refine ⟨⟨trivial,?_,?_⟩,Int.mul_comm _ _,?_,?_⟩<;>omega
theorem dif_inj {a c d:TP} (h:dif a c=dif a d):c=d:=by
 unfold dif at h
 cases c;cases d
 simp only [TP.mk.injEq] at h ⊢
 omega
theorem cmp_val (n:Nat) (a x y:TP) (ha:P2 a) (hx:P2 x) (hy:P2 y):g338 n x y a.X a.Y=some (sqn (dif a x)-sqn (dif a y)):=by
 have sq:∀z,P2 z→g277 n (⟨a.X,a.Y⟩:TP) z=some (sqn (dif a z))∧0≤sqn (dif a z)∧sqn (dif a z)≤32000000000000:=fun z hz=>by
  obtain ⟨a1,a2,a3,a4⟩:=ha
  obtain ⟨z1,z2,z3,z4⟩:=hz
  have m1:=mul_bd (a:=a.X-z.X) (b:=a.X-z.X) (M:=4000000) (by omega) (by omega) (by decide)
  have m2:=mul_bd (a:=a.Y-z.Y) (b:=a.Y-z.Y) (M:=4000000) (by omega) (by omega) (by decide)
  have e1:(z.X-a.X)*(z.X-a.X)=(a.X-z.X)*(a.X-z.X):=by rw [show z.X-a.X= -(a.X-z.X) by omega,Int.neg_mul_neg]
  have e2:(z.Y-a.Y)*(z.Y-a.Y)=(a.Y-z.Y)*(a.Y-z.Y):=by rw [show z.Y-a.Y= -(a.Y-z.Y) by omega,Int.neg_mul_neg]
  have p1:0≤(a.X-z.X)*(a.X-z.X):=by
   rcases Int.le_total 0 (a.X-z.X) with k|k
   ·exact Int.mul_nonneg k k
   ·exact Int.mul_nonneg_of_nonpos_of_nonpos k k
  have p2:0≤(a.Y-z.Y)*(a.Y-z.Y):=by
   rcases Int.le_total 0 (a.Y-z.Y) with k|k
   ·exact Int.mul_nonneg k k
   ·exact Int.mul_nonneg_of_nonpos_of_nonpos k k
  have e3:sqn (dif a z)=(a.X-z.X)*(a.X-z.X)+(a.Y-z.Y)*(a.Y-z.Y):=by show (z.X-a.X)*(z.X-a.X)+(z.Y-a.Y)*(z.Y-a.Y)=_;rw [e1,e2]
  refine ⟨?_,by rw [e3];omega,by rw [e3];omega⟩
  unfold g277
  rw [sub_val,Option.bind_some]
  unfold g326
  simp only [Option.bind_some]
  rw [wrap64 (z:=a.X-z.X) (by omega) (by omega),wrap64 (z:=a.Y-z.Y) (by omega) (by omega),wrap64 (z:=(a.X-z.X)*(a.X-z.X)) (by omega) (by omega),wrap64 (z:=(a.Y-z.Y)*(a.Y-z.Y)) (by omega) (by omega),wrap64 (by omega) (by omega),e3]
 obtain ⟨q1,q2,q3⟩:=sq x hx
 obtain ⟨r1,r2,r3⟩:=sq y hy
 unfold g338
 rw [q1,Option.bind_some,r1,Option.bind_some,wrap64 (by omega) (by omega)]
theorem cuts_sort (n:Nat) (a b:TP) (ha:P2 a) (l:List TP) (hl:∀c∈l,P2 c∧Seg (dif a b) (dif a c)) (hlen:l.length≤1000):∃k,sortO (fun x y=>g338 n x y a.X a.Y) l=some k∧k.Perm l:=by
 have hv:∀x∈l,∀y∈l,g338 n x y a.X a.Y=some (sqn (dif a x)-sqn (dif a y)):=fun x hx y hy=>cmp_val n a x y ha (hl x hx).1 (hl y hy).1
 have hlt:∀x∈l,∀y∈l,(ltO (fun x y=>g338 n x y a.X a.Y) x y=true↔sqn (dif a x)<sqn (dif a y)):=fun x hx y hy=>by
  show decide ((g338 n x y a.X a.Y).getD 0<0)=true↔_
  rw [hv x hx y hy,decide_eq_true_eq]
  show sqn (dif a x)-sqn (dif a y)<0↔_
  constructor<;>intro h<;>omega
 have ho:OrdOn (fun x y=>g338 n x y a.X a.Y) l:=by
  refine ⟨fun x hx y hy=>⟨_,hv x hx y hy⟩,fun x hx y hy=> ?_,fun x hx y hy h=> ?_,fun x hx y hy z hz h1 h2=> ?_⟩
  ·rcases Int.lt_trichotomy (sqn (dif a x)) (sqn (dif a y)) with k|k|k
   ·exact .inl ((hlt x hx y hy).2 k)
   ·exact .inr (.inr (dif_inj (seg_inj (hl x hx).2 (hl y hy).2 k)))
   ·exact .inr (.inl ((hlt y hy x hx).2 k))
  ·have h1:=(hlt x hx y hy).1 h
   cases hq:ltO (fun x y=>g338 n x y a.X a.Y) y x with
   |false=>rfl
   |true=>have h2:=(hlt y hy x hx).1 hq;omega
  ·have k1:=(hlt x hx y hy).1 h1
   have k2:=(hlt y hy z hz).1 h2
   exact (hlt x hx z hz).2 (by omega)
 have e:sortO (fun x y=>g338 n x y a.X a.Y) l=some (isortB (ltO (fun x y=>g338 n x y a.X a.Y)) l):=by
  unfold sortO
  rw [orderB_on.2 ho,decide_eq_true (show l.length<4611686018427387904 by omega)];rfl
 exact ⟨_,e,(sortO_facts e).1⟩
end Go.Proofs.YtlenkbgeomojnaaGreatDoor
set_option linter.unusedVariables false
set_option linter.unusedSimpArgs false
namespace Go.Proofs.YtlenkbgeomojnaaGreatDoor
theorem pts_loop (n:Nat) (p q:List TP) (c4:Bool) (c17 v18:Int) (w11:Nat) (hw:w11<1000000) (a b m:TP) (hq:q.length≤1000) (hn:q.length<n) (L:List TP):
  ∃r,iterO (fun y:Int×List TP=>S305_0_1_0 n p q c4 (w11:Int) c17 v18 (q.length:Int) a.X a.Y b.X b.Y m.X m.Y y.1 y.2) n ((0),L)=some r∧(r=.inl (((w11+1:Nat):Int),L)∨r=.inr (.inr true)):=by
 refine iterO_rule (S:=fun y:Int×List TP=>S305_0_1_0 n p q c4 (w11:Int) c17 v18 (q.length:Int) a.X a.Y b.X b.Y m.X m.Y y.1 y.2) (fun y=>∃i:Nat,y=((i:Int),L)∧i≤q.length) _ (fun y=>q.length-y.1.toNat) ?_ n ((0),L) ⟨0,rfl,Nat.zero_le _⟩ (by show q.length-(0:Int).toNat<n;omega)
 rintro _ ⟨i,rfl,hi⟩
 show (∃y,S305_0_1_0 n p q c4 (w11:Int) c17 v18 (q.length:Int) a.X a.Y b.X b.Y m.X m.Y (i:Int) L=some (.inl y)∧_∧_)∨∃r,S305_0_1_0 n p q c4 (w11:Int) c17 v18 (q.length:Int) a.X a.Y b.X b.Y m.X m.Y (i:Int) L=some (.inr r)∧_
 unfold S305_0_1_0
 rcases Nat.lt_or_ge i q.length with hlt|hge
 ·obtain ⟨x,hx⟩:=getI_tot hlt
  obtain ⟨y,hy⟩:=next_tot n q i hlt hq
  obtain ⟨o,ho⟩:=on_tot n x y (⟨m.X,m.Y⟩:TP)
  have go:∀z:List TP,z=L→∃y,(some (.inl (((i+1:Nat):Int),z)):Option ((Int×List TP)⊕((Int×List TP)⊕((Int)⊕Bool))))=some (.inl y)∧(∃i':Nat,y=((i':Int),L)∧i'≤q.length)∧q.length-y.1.toNat<q.length-(i:Int).toNat:=fun z hz=>⟨_,rfl,⟨i+1,by rw [hz],hlt⟩,by show q.length-((i+1:Nat):Int).toNat<_;omega⟩
  rw [decide_eq_true (show (i:Int)<_ by omega),cond_true,hx,Option.bind_some,hy,Option.bind_some,ho,Option.bind_some,wS (by omega),sub_val,Option.bind_some,sub_val,Option.bind_some]
  cases o with
  |false=>exact .inl (go L rfl)
  |true=>
   rw [cond_true]
   unfold g326
   rw [Option.bind_some]
   generalize decide (_>(0:Int))=d
   cases d with
   |false=>exact .inl (go L rfl)
   |true=>exact .inr ⟨_,rfl,.inr rfl⟩
 ·rw [decide_eq_false (show ¬(i:Int)<_ by omega),cond_false,wS (by omega)]
  exact .inr ⟨_,rfl,.inl rfl⟩
theorem cut_loop (n:Nat) (p q:List TP) (c4:Bool) (c17:Int) (v18:Nat) (hv:v18<1000000) (a b:TP) (hq:q.length≤1000) (hn:2000<n) (L:List TP) (hL:L.length≤1100):
  ∃r,iterO (fun y:Int×List TP=>S305_0_1 n p q c4 c17 (v18:Int) a.X a.Y b.X b.Y y.1 y.2) n ((1),L)=some r∧(r=.inl ((v18+1:Nat):Int)∨r=.inr true):=by
 refine iterO_rule (S:=fun y:Int×List TP=>S305_0_1 n p q c4 c17 (v18:Int) a.X a.Y b.X b.Y y.1 y.2) (fun y=>∃i:Nat,1≤i∧y=((i:Int),L)∧i≤L.length+1) _ (fun y=>L.length+1-y.1.toNat) ?_ n ((1),L) ⟨1,Nat.le_refl _,rfl,by omega⟩ (by show L.length+1-(1:Int).toNat<n;omega)
 rintro _ ⟨i,hi1,rfl,hi⟩
 show (∃y,S305_0_1 n p q c4 c17 (v18:Int) a.X a.Y b.X b.Y (i:Int) L=some (.inl y)∧_∧_)∨∃r,S305_0_1 n p q c4 c17 (v18:Int) a.X a.Y b.X b.Y (i:Int) L=some (.inr r)∧_
 unfold S305_0_1
 rcases Nat.lt_or_ge i L.length with hlt|hge
 ·obtain ⟨k,rfl⟩:∃k,i=k+1:=⟨i-1,by omega⟩
  have hw:IntKind.wrap .i64 (((k+1:Nat):Int)-1)=(k:Int):=by rw [wrap64 (by omega) (by omega)];omega
  obtain ⟨x,hx⟩:=getI_tot hlt
  obtain ⟨y,hy⟩:=getI_tot (show k<L.length by omega)
  have go:∃y,(some (.inl (((k+1+1:Nat):Int),L)):Option ((Int×List TP)⊕((Int)⊕Bool)))=some (.inl y)∧(∃i':Nat,1≤i'∧y=((i':Int),L)∧i'≤L.length+1)∧L.length+1-y.1.toNat<L.length+1-((k+1:Nat):Int).toNat:=⟨_,rfl,⟨k+1+1,by omega,rfl,by omega⟩,by show L.length+1-((k+1+1:Nat):Int).toNat<_;omega⟩
  rw [decide_eq_true (show ((k+1:Nat):Int)<_ by omega),cond_true,hw,hx,Option.bind_some,hy,Option.bind_some,wS (by omega)]
  cases decide (x=y) with
  |true=>exact .inl go
  |false=>
   rw [cond_false,Option.bind_some,Option.bind_some,Option.bind_some,Option.bind_some]
   obtain ⟨z,hz⟩:=place_tot n q (⟨(IntKind.wrap .i64 (Int.tdiv (IntKind.wrap .i64 (x.X+y.X)) (2))),(IntKind.wrap .i64 (Int.tdiv (IntKind.wrap .i64 (x.Y+y.Y)) (2)))⟩:TP) hq (by omega)
   rw [hz,Option.bind_some]
   cases (z==1) with
   |true=>exact .inr ⟨_,rfl,.inr rfl⟩
   |false=>
    rw [cond_false]
    cases (z==0) with
    |false=>exact .inl go
    |true=>
     rw [cond_true]
     obtain ⟨r,hr,rfl|rfl⟩:=pts_loop n p q c4 c17 (v18:Int) (k+1) (by omega) a b (⟨(IntKind.wrap .i64 (Int.tdiv (IntKind.wrap .i64 (x.X+y.X)) (2))),(IntKind.wrap .i64 (Int.tdiv (IntKind.wrap .i64 (x.Y+y.Y)) (2)))⟩:TP) hq (by omega) L
     ·left
      obtain ⟨y',q1,q2,q3⟩:=go
      cases q1
      exact ⟨_,hr,q2,q3⟩
     ·exact .inr ⟨_,hr,.inr rfl⟩
 ·rw [decide_eq_false (show ¬(i:Int)<_ by omega),cond_false,wS (by omega)]
  exact .inr ⟨_,rfl,.inl rfl⟩
theorem enters_tot (n:Nat) (p q:List TP) (hp:∀x∈p,P2 x) (hq:∀x∈q,P2 x) (hpl:p.length≤900) (hql:q.length≤900) (hn:4000<n):∃b,g305 n p q=some b:=by
 unfold g305
 refine iter_tot p.length (fun i hi=> ?_) (fun i hi=> ?_) n 0 (by omega)
 ·show S305_0 n p q false (p.length:Int) (i:Int)=_∨_
  unfold S305_0
  have ha:p[i]?=some p[i]:=List.getElem?_eq_getElem hi
  generalize p[i]=a at ha
  obtain ⟨b,hb,hbm⟩:=next_at n p i (by omega) (by omega)
  have a2:=hp a (List.mem_of_getElem? ha)
  have b2:=hp b hbm
  rw [decide_eq_true (show (i:Int)<_ by omega),cond_true,getI_at ha,Option.bind_some,hb,Option.bind_some]
  obtain ⟨r,hr,hQ⟩:=iterO_rule (S:=fun y:Int×List TP=>S305_0_0 n p q false (p.length:Int) (i:Int) (q.length:Int) a.X a.Y b.X b.Y y.1 y.2) (fun y=>∃(j:Nat) (L:List TP),y=((j:Int),L)∧j≤q.length∧L.length≤2+j∧∀c∈L,P2 c∧Seg (dif a b) (dif a c)) (fun r=>r=.inl ((i+1:Nat):Int)∨r=.inr true) (fun y=>q.length-y.1.toNat) (by
   rintro _ ⟨j,L,rfl,hj,hL,hS⟩
   show (∃y,S305_0_0 n p q false (p.length:Int) (i:Int) (q.length:Int) a.X a.Y b.X b.Y (j:Int) L=some (.inl y)∧_∧_)∨∃r,S305_0_0 n p q false (p.length:Int) (i:Int) (q.length:Int) a.X a.Y b.X b.Y (j:Int) L=some (.inr r)∧_
   unfold S305_0_0
   rcases Nat.lt_or_ge j q.length with hlt|hge
   ·have hc:q[j]?=some q[j]:=List.getElem?_eq_getElem hlt
    generalize q[j]=c at hc
    have c2:=hq c (List.mem_of_getElem? hc)
    obtain ⟨o,ho⟩:=on_tot n (⟨a.X,a.Y⟩:TP) (⟨b.X,b.Y⟩:TP) c
    rw [decide_eq_true (show (j:Int)<_ by omega),cond_true,getI_at hc,Option.bind_some,ho,Option.bind_some,wS (by omega)]
    cases o with
    |false=>exact .inl ⟨_,rfl,⟨j+1,L,rfl,hlt,by omega,hS⟩,by show q.length-((j+1:Nat):Int).toNat<q.length-(j:Int).toNat;omega⟩
    |true=>
     rw [cond_true,room_of (by simp only [List.length_singleton];omega) (by simp only [List.length_singleton];omega),Option.bind_some]
     refine .inl ⟨_,rfl,⟨j+1,L++[c],rfl,hlt,by simp;omega,fun x hx=> ?_⟩,by show q.length-((j+1:Nat):Int).toNat<q.length-(j:Int).toNat;omega⟩
     rcases List.mem_append.1 hx with k|k
     ·exact hS x k
     ·rw [List.mem_singleton.1 k]
      exact ⟨c2,on_seg n a b c a2 b2 c2 ho⟩
   ·rw [decide_eq_false (show ¬(j:Int)<_ by omega),cond_false]
    obtain ⟨k,hk,hkp⟩:=cuts_sort n a b a2 L hS (by omega)
    rw [hk,Option.bind_some]
    obtain ⟨r,hr,hq'⟩:=cut_loop n p q false (p.length:Int) i (by omega) a b (by omega) (by omega) k (by rw [hkp.length_eq];omega)
    rw [hr]
    exact .inr ⟨_,rfl,hq'⟩) n ((0),[a,b]) ⟨0,[a,b],rfl,Nat.zero_le _,by simp,fun c hc=>by
    rcases List.mem_cons.1 hc with k|k
    ·rw [k];exact ⟨a2,(seg_self a b).1⟩
    ·rw [List.mem_singleton.1 k];exact ⟨b2,(seg_self a b).2⟩⟩ (by show q.length-(0:Int).toNat<n;omega)
  rw [hr]
  rcases hQ with rfl|rfl
  ·exact .inl rfl
  ·exact .inr ⟨_,rfl⟩
 ·show ∃r,S305_0 n p q false (p.length:Int) (i:Int)=_
  unfold S305_0
  rw [decide_eq_false (show ¬(i:Int)<_ by omega)]
  exact ⟨_,rfl⟩
theorem doubled_val (n:Nat) (p:List TP) (hl:p.length≤1000) (hn:p.length<n) (hp:∀x∈p,POk x):∃d,g304 n p=some d∧d.length=p.length∧∀x∈d,P2 x:=by
 unfold g304
 refine iterO_rule (S:=fun y:Int×List TP=>S304_0 n p (p.length:Int) y.1 y.2) (fun y=>∃(i:Nat) (L:List TP),y=((i:Int),L)∧i≤p.length∧L.length=i∧∀x∈L,P2 x) _ (fun y=>p.length-y.1.toNat) ?_ n ((0),[]) ⟨0,[],rfl,Nat.zero_le _,rfl,fun x hx=>by cases hx⟩ (by show p.length-(0:Int).toNat<n;omega)
 rintro _ ⟨i,L,rfl,hi,hL,hS⟩
 show (∃y,S304_0 n p (p.length:Int) (i:Int) L=some (.inl y)∧_∧_)∨∃r,S304_0 n p (p.length:Int) (i:Int) L=some (.inr r)∧_
 unfold S304_0
 rcases Nat.lt_or_ge i p.length with hlt|hge
 ·have hc:p[i]?=some p[i]:=List.getElem?_eq_getElem hlt
  generalize p[i]=c at hc
  obtain ⟨c1,c2,c3,c4⟩:=hp c (List.mem_of_getElem? hc)
  rw [decide_eq_true (show (i:Int)<_ by omega),cond_true,getI_at hc,Option.bind_some,room_of (by simp only [List.length_singleton];omega) (by simp only [List.length_singleton];omega),Option.bind_some,wS (by omega),wrap64 (z:=2*c.X) (by omega) (by omega),wrap64 (z:=2*c.Y) (by omega) (by omega)]
  refine .inl ⟨_,rfl,⟨i+1,_,rfl,hlt,by simp [hL],fun x hx=> ?_⟩,by show p.length-((i+1:Nat):Int).toNat<p.length-(i:Int).toNat;omega⟩
  rcases List.mem_append.1 hx with k|k
  ·exact hS x k
  ·rw [List.mem_singleton.1 k]
   exact ⟨by show -2000000≤2*c.X;omega,by show 2*c.X≤_;omega,by show -2000000≤2*c.Y;omega,by show 2*c.Y≤_;omega⟩
 ·rw [decide_eq_false (show ¬(i:Int)<_ by omega),cond_false]
  exact .inr ⟨L,rfl,by omega,hS⟩
theorem cross_loop (n:Nat) (p q:List TP) (hp:PolyOk p) (hq:PolyOk q) (hn:4000<n):∃r,iterO (fun y:Int=>S244_1 n p q false (0) (p.length:Int) y) n (0)=some r:=by
 have p1:=hp.lo
 have p2:=hp.hi
 have q1:=hq.lo
 have q2:=hq.hi
 obtain ⟨dp,e1,l1,b1⟩:=doubled_val n p (by omega) (by omega) hp.pts
 obtain ⟨dq,e2,l2,b2⟩:=doubled_val n q (by omega) (by omega) hq.pts
 refine iter_tot p.length (fun i hi=> ?_) (fun i hi=> ?_) n 0 (by omega)
 ·show S244_1 n p q false (0) (p.length:Int) (i:Int)=_∨_
  obtain ⟨x,hx⟩:=getI_tot hi
  obtain ⟨y,hy⟩:=next_tot n p i hi (by omega)
  obtain ⟨r,hr,hQ⟩:=iterO_rule (S:=fun y:Int=>S244_1_0 n p q false (0) (i:Int) (p.length:Int) (q.length:Int) y) (fun y=>∃j:Nat,y=(j:Int)∧j≤q.length) (fun r=>r=.inl ((i+1:Nat):Int)∨∃z,r=.inr z) (fun y=>q.length-y.toNat) (by
   rintro _ ⟨j,rfl,hj⟩
   show (∃y,S244_1_0 n p q false (0) (i:Int) (p.length:Int) (q.length:Int) (j:Int)=some (.inl y)∧_∧_)∨∃r,S244_1_0 n p q false (0) (i:Int) (p.length:Int) (q.length:Int) (j:Int)=some (.inr r)∧_
   unfold S244_1_0
   rcases Nat.lt_or_ge j q.length with hlt|hge
   ·obtain ⟨u,hu⟩:=getI_tot hlt
    obtain ⟨v,hv⟩:=next_tot n q j hlt (by omega)
    obtain ⟨b,hb⟩:=crosses_tot n x y u v
    rw [decide_eq_true (show (j:Int)<_ by omega),cond_true,hx,Option.bind_some,hy,Option.bind_some,hu,Option.bind_some,hv,Option.bind_some,hb,Option.bind_some,wS (by omega)]
    cases b
    ·exact .inl ⟨_,rfl,⟨j+1,rfl,hlt⟩,by show q.length-((j+1:Nat):Int).toNat<q.length-(j:Int).toNat;omega⟩
    ·exact .inr ⟨_,rfl,.inr ⟨_,rfl⟩⟩
   ·rw [decide_eq_false (show ¬(j:Int)<_ by omega),cond_false,wS (by omega)]
    exact .inr ⟨_,rfl,.inl rfl⟩) n 0 ⟨0,rfl,Nat.zero_le _⟩ (by show q.length-(0:Int).toNat<n;omega)
  unfold S244_1
  rw [decide_eq_true (show (i:Int)<_ by omega),cond_true,hr]
  rcases hQ with rfl|⟨z,rfl⟩
  ·exact .inl rfl
  ·exact .inr ⟨_,rfl⟩
 ·show ∃r,S244_1 n p q false (0) (p.length:Int) (i:Int)=_
  obtain ⟨x,hx⟩:=enters_tot n dp dq b1 b2 (by omega) (by omega) hn
  obtain ⟨y,hy⟩:=enters_tot n dq dp b2 b1 (by omega) (by omega) hn
  unfold S244_1
  rw [decide_eq_false (show ¬(i:Int)<_ by omega),cond_false,e1,Option.bind_some,e2,Option.bind_some,hx,Option.bind_some,hy]
  cases x
  ·exact ⟨_,rfl⟩
  ·exact ⟨_,rfl⟩
theorem overlap_tot (n:Nat) (p q:List TP) (hn:4000<n):∃r,g244 n p q=some r:=by
 obtain ⟨z1,e1,k1⟩:=poly_check n p (by omega)
 obtain ⟨z2,e2,k2⟩:=poly_check n q (by omega)
 unfold g244
 obtain ⟨r,hr,-⟩:=iterO_rule (S:=fun y:Int=>S244_0 n p q false (0) ([p,q]:List (List TP)) (([p,q]:List (List TP)).length:Int) y) (fun y=>∃i:Nat,y=(i:Int)∧i≤2∧(1≤i→z1=0)∧(2≤i→z2=0)) (fun _=>True) (fun y=>2-y.toNat) (by
  rintro _ ⟨i,rfl,hi,j1,j2⟩
  show (∃y,S244_0 n p q false (0) ([p,q]:List (List TP)) (([p,q]:List (List TP)).length:Int) (i:Int)=some (.inl y)∧_∧_)∨∃r,S244_0 n p q false (0) ([p,q]:List (List TP)) (([p,q]:List (List TP)).length:Int) (i:Int)=some (.inr r)∧_
  rcases Nat.lt_or_ge i 2 with hlt|hge
  ·have hx:∃x z,([p,q]:List (List TP))[i]?=some x∧g243 n x=some z∧(z=0→(1≤i+1→z1=0)∧(2≤i+1→z2=0)):=by
    match i,hlt with
    |0,_=>exact ⟨p,z1,rfl,e1,fun h=>⟨fun _=>h,fun h=>by omega⟩⟩
    |1,_=>exact ⟨q,z2,rfl,e2,fun h=>⟨fun _=>j1 (by omega),fun _=>h⟩⟩
   obtain ⟨x,z,hx,hz,hz2⟩:=hx
   unfold S244_0
   rw [decide_eq_true (show (i:Int)<_ by simp;omega),cond_true,getI_at hx,Option.bind_some,hz,Option.bind_some,wS (by omega)]
   by_cases h:z=0
   ·rw [h]
    exact .inl ⟨_,rfl,⟨i+1,rfl,by omega,(hz2 h).1,(hz2 h).2⟩,by show 2-((i+1:Nat):Int).toNat<2-(i:Int).toNat;omega⟩
   ·rw [bne_iff_ne.2 h,cond_true]
    exact .inr ⟨_,rfl,trivial⟩
  ·obtain ⟨r,hr⟩:=cross_loop n p q (k1 (j1 (by omega))) (k2 (j2 hge)) hn
   unfold S244_0
   rw [decide_eq_false (show ¬(i:Int)<_ by simp;omega),cond_false,hr]
   exact .inr ⟨r,rfl,trivial⟩) n 0 ⟨0,rfl,by omega,fun h=>by omega,fun h=>by omega⟩ (by show 2-(0:Int).toNat<n;omega)
 exact ⟨r,hr⟩
def VolOk (v:TVolume):Prop:=PolyOk v.Area
theorem vol_check (n:Nat) (v:TVolume) (hn:40<n):∃z,g173 n v=some z∧(z=0→VolOk v):=by
 obtain ⟨z,e,k⟩:=poly_check n v.Area hn
 unfold g173
 rw [e,Option.bind_some]
 by_cases h:z=0
 ·rw [h,show ((0:Int) !=0)=false from rfl,cond_false]
  cases decide (v.Low<0)<;>cases decide (v.High>60001)<;>cases decide (v.Low≥v.High)<;>exact ⟨_,rfl,fun _=>k h⟩
 ·rw [bne_iff_ne.2 h,cond_true]
  exact ⟨z,rfl,fun h0=>absurd h0 h⟩
theorem vover_tot (n:Nat) (v w:TVolume) (hn:4000<n):∃r,g176 n v w=some r:=by
 obtain ⟨z1,e1,k1⟩:=vol_check n v (by omega)
 obtain ⟨z2,e2,k2⟩:=vol_check n w (by omega)
 obtain ⟨o,ho⟩:=overlap_tot n v.Area w.Area hn
 unfold g176
 refine iter_tot 2 (fun i hi=> ?_) (fun i hi=> ?_) n 0 (by omega)
 ·have hx:∃x z,([v,w]:List TVolume)[i]?=some x∧g173 n x=some z:=by
   match i,hi with
   |0,_=>exact ⟨v,z1,rfl,e1⟩
   |1,_=>exact ⟨w,z2,rfl,e2⟩
  obtain ⟨x,z,hx,hz⟩:=hx
  show S176_0 n false (0) ([v,w]:List TVolume) (([v,w]:List TVolume).length:Int) v.Area v.Low v.High w.Area w.Low w.High (i:Int)=_∨∃r,S176_0 n false (0) ([v,w]:List TVolume) (([v,w]:List TVolume).length:Int) v.Area v.Low v.High w.Area w.Low w.High (i:Int)=_
  unfold S176_0
  rw [decide_eq_true (show (i:Int)<_ by simp;omega),cond_true,getI_at hx,Option.bind_some,hz,Option.bind_some,wS (by omega)]
  cases (z !=0)
  ·exact .inl rfl
  ·exact .inr ⟨_,rfl⟩
 ·show ∃r,S176_0 n false (0) ([v,w]:List TVolume) (([v,w]:List TVolume).length:Int) v.Area v.Low v.High w.Area w.Low w.High (i:Int)=_
  unfold S176_0
  rw [decide_eq_false (show ¬(i:Int)<_ by simp;omega),cond_false,ho,Option.bind_some]
  cases (o.2==0)<;>cases o.1<;>exact ⟨_,rfl⟩
end Go.Proofs.YtlenkbgeomojnaaGreatDoor
set_option linter.unusedVariables false
set_option linter.unusedSimpArgs false
namespace Go.Proofs.YtlenkbgeomojnaaGreatDoor
theorem name_tot (n:Nat) (hn:16<n) (s:ByteArray):∃b,g49 n s=some b:=by
 unfold g49
 by_cases h1:(s.size:Int)<1
 ·simp [h1]
 by_cases h2:(s.size:Int)>8
 ·simp [h1,h2]
 have hl:s.data.toList.length=s.size:=Array.length_toList
 rw [decide_eq_false h1,decide_eq_false h2,room_of (by omega) (by omega)]
 simp only [cond_false,Option.bind_some]
 refine iter_tot s.data.toList.length (fun i hi=> ?_) (fun i hi=> ?_) n 0 (by omega)
 ·obtain ⟨x,hx⟩:=getI_tot hi
  show S49_0 n false (s.data.toList) ((s.data.toList).length:Int) (i:Int)=_∨∃r,S49_0 n false (s.data.toList) ((s.data.toList).length:Int) (i:Int)=_
  unfold S49_0
  rw [decide_eq_true (show (i:Int)<_ by omega),hx,wS (by omega)]
  simp only [cond_true,Option.bind_some]
  repeat' (rw [Bool.cond_eq_ite];split)
  all_goals simp
 ·show ∃r,S49_0 n false (s.data.toList) ((s.data.toList).length:Int) (i:Int)=_
  unfold S49_0
  rw [decide_eq_false (show ¬(i:Int)<_ by omega)]
  exact ⟨_,rfl⟩
theorem sname_tot (n:Nat) (hn:16<n) (s:ByteArray):∃b,g172 n s=some b:=by
 unfold g172
 exact bind_tot (name_tot n hn s) fun _=>⟨_,rfl⟩
structure SecOk (l:List TSector):Prop where
 len:l.length≤12
 rooms:∀s∈l,s.Room.length≤4∧∀v∈s.Room,VolOk v
theorem named_tot (n:Nat) (l:List TSector) (a:ByteArray) (b:List TVolume) (hl:l.length<n) (hl2:l.length≤1000):∃r,g174 n l a b=some r:=by
 unfold g174 g179_1
 refine bind_tot (iter_tot l.length (fun i hi=> ?_) (fun i hi=> ?_) n 0 (by omega)) fun _=>⟨_,rfl⟩
 ·obtain ⟨x,hx⟩:=getI_tot hi
  show S179_0_x1 n l a b (0) (l.length:Int) (i:Int)=_∨∃r,S179_0_x1 n l a b (0) (l.length:Int) (i:Int)=_
  unfold S179_0_x1 g175
  rw [decide_eq_true (show (i:Int)<_ by omega),cond_true,hx,Option.bind_some,Option.bind_some,wS (by omega)]
  cases (x.Name.toList==a.toList)
  ·exact .inl rfl
  ·exact .inr ⟨_,rfl⟩
 ·show ∃r,S179_0_x1 n l a b (0) (l.length:Int) (i:Int)=_
  unfold S179_0_x1
  rw [decide_eq_false (show ¬(i:Int)<_ by omega)]
  exact ⟨_,rfl⟩
theorem room_loop (n:Nat) (hn:4500<n) (l:List TSector) (hl:l.length≤12) (i:Nat) (hi:i<l.length) (c19:Int) (R:List TVolume) (nm:ByteArray) (hR:R.length≤4) (hR0:R≠[]) (L:List TVolume) (hL:L.length≤100):
  ∃r,iterO (fun y:Int×List TVolume=>S110_0_0 n l 0 (i:Int) c19 R (R.length:Int) nm y.1 y.2) n ((0),L)=some r∧((r=.inl (((i+1:Nat):Int),L++R)∧∀v∈R,VolOk v)∨∃z,z≠0∧r=.inr z):=by
 refine iterO_rule (S:=fun y:Int×List TVolume=>S110_0_0 n l 0 (i:Int) c19 R (R.length:Int) nm y.1 y.2) (fun y=>∃j:Nat,y=((j:Int),L)∧j≤R.length∧∀(k:Nat) (v:TVolume),k<j→R[k]?=some v→VolOk v) _ (fun y=>R.length-y.1.toNat) ?_ n ((0),L) ⟨0,rfl,Nat.zero_le _,fun k v h=>absurd h (Nat.not_lt_zero _)⟩ (by show R.length-(0:Int).toNat<n;omega)
 rintro _ ⟨j,rfl,hj,hv⟩
 show (∃y,S110_0_0 n l 0 (i:Int) c19 R (R.length:Int) nm (j:Int) L=some (.inl y)∧_∧_)∨∃r,S110_0_0 n l 0 (i:Int) c19 R (R.length:Int) nm (j:Int) L=some (.inr r)∧_
 unfold S110_0_0
 rcases Nat.lt_or_ge j R.length with hlt|hge
 ·have hx:R[j]?=some R[j]:=List.getElem?_eq_getElem hlt
  generalize R[j]=x at hx
  obtain ⟨z,hz,kz⟩:=vol_check n x (by omega)
  rw [decide_eq_true (show (j:Int)<_ by omega),cond_true,getI_at hx,Option.bind_some,hz,Option.bind_some,wS (by omega)]
  by_cases h:z=0
  ·rw [h]
   refine .inl ⟨_,rfl,⟨j+1,rfl,hlt,fun k v hk hkv=> ?_⟩,by show R.length-((j+1:Nat):Int).toNat<R.length-(j:Int).toNat;omega⟩
   by_cases e:k=j
   ·subst e;rw [hx] at hkv;cases hkv;exact kz h
   ·exact hv k v (by omega) hkv
  ·rw [bne_iff_ne.2 h,cond_true]
   exact .inr ⟨_,rfl,.inr ⟨z,h,rfl⟩⟩
 ·have htl:(l.take i).length≤12:=by rw [List.length_take];omega
  obtain ⟨b,hb⟩:=named_tot n (l.take i) nm R (by omega) (by omega)
  have hne:neO R=some ():=by
   cases hR':R with
   |nil=>exact absurd hR' hR0
   |cons _ _=>rfl
  rw [decide_eq_false (show ¬(j:Int)<_ by omega),cond_false,slice_hi l i (by omega),Option.bind_some,hb,Option.bind_some]
  cases b with
  |true=>exact .inr ⟨_,rfl,.inr ⟨7,by decide,rfl⟩⟩
  |false=>
   rw [cond_false,hne,Option.bind_some,room_of (by omega) (by omega),Option.bind_some,wS (by omega)]
   refine .inr ⟨_,rfl,.inl ⟨rfl,fun v hv'=> ?_⟩⟩
   obtain ⟨k,hk⟩:=List.getElem?_of_mem hv'
   exact hv k v (by have:=some_lt hk;omega) hk
theorem apart_loop (n:Nat) (hn:4500<n) (L:List TVolume) (hL:L.length≤100):∃z,iterO (fun y:Int=>S110_1 n 0 L (L.length:Int) y) n (0)=some z:=by
 refine iter_tot L.length (fun i hi=> ?_) (fun i hi=> ?_) n 0 (by omega)
 ·obtain ⟨x,hx⟩:=getI_tot hi
  show S110_1 n 0 L (L.length:Int) (i:Int)=_∨∃r,S110_1 n 0 L (L.length:Int) (i:Int)=_
  obtain ⟨r,hr,hQ⟩:=iterO_rule (S:=fun y:Int=>S110_1_0 n 0 L (L.length:Int) (i:Int) (L.take i) ((L.take i).length:Int) x.Area x.Low x.High y) (fun y=>∃j:Nat,y=(j:Int)∧j≤(L.take i).length) (fun r=>r=.inl ((i+1:Nat):Int)∨∃z,r=.inr z) (fun y=>(L.take i).length-y.toNat) (by
   rintro _ ⟨j,rfl,hj⟩
   show (∃y,S110_1_0 n 0 L (L.length:Int) (i:Int) (L.take i) ((L.take i).length:Int) x.Area x.Low x.High (j:Int)=some (.inl y)∧_∧_)∨∃r,S110_1_0 n 0 L (L.length:Int) (i:Int) (L.take i) ((L.take i).length:Int) x.Area x.Low x.High (j:Int)=some (.inr r)∧_
   have hjl:(L.take i).length≤100:=by rw [List.length_take];omega
   unfold S110_1_0
   rcases Nat.lt_or_ge j (L.take i).length with hlt|hge
   ·obtain ⟨w,hw⟩:=getI_tot hlt
    obtain ⟨o,ho⟩:=vover_tot n (⟨x.Area,x.Low,x.High⟩:TVolume) w (by omega)
    rw [decide_eq_true (show (j:Int)<_ by omega),cond_true,hw,Option.bind_some,ho,Option.bind_some,wS (by omega)]
    cases o.1
    ·exact .inl ⟨_,rfl,⟨j+1,rfl,hlt⟩,by show (L.take i).length-((j+1:Nat):Int).toNat<(L.take i).length-(j:Int).toNat;omega⟩
    ·exact .inr ⟨_,rfl,.inr ⟨_,rfl⟩⟩
   ·rw [decide_eq_false (show ¬(j:Int)<_ by omega),cond_false,wS (by omega)]
    exact .inr ⟨_,rfl,.inl rfl⟩) n 0 ⟨0,rfl,Nat.zero_le _⟩ (by show (L.take i).length-(0:Int).toNat<n;rw [List.length_take];omega)
  unfold S110_1
  rw [decide_eq_true (show (i:Int)<_ by omega),cond_true,hx,Option.bind_some,slice_hi L i (by omega),Option.bind_some,hr]
  rcases hQ with rfl|⟨z,rfl⟩
  ·exact .inl rfl
  ·exact .inr ⟨_,rfl⟩
 ·show ∃r,S110_1 n 0 L (L.length:Int) (i:Int)=_
  unfold S110_1
  rw [decide_eq_false (show ¬(i:Int)<_ by omega)]
  exact ⟨_,rfl⟩
theorem sec_check (n:Nat) (hn:4500<n) (l:List TSector):∃z,g110 n l=some z∧(z=0→SecOk l):=by
 unfold g110
 by_cases h1:(l.length:Int)>12
 ·rw [decide_eq_true h1,cond_true];exact ⟨2,rfl,fun h=>by cases h⟩
 rw [decide_eq_false h1,cond_false]
 refine iterO_rule (S:=fun y:Int×List TVolume=>S110_0 n l 0 (l.length:Int) y.1 y.2) (fun y=>∃(i:Nat) (L:List TVolume),y=((i:Int),L)∧i≤l.length∧L.length≤4*i∧∀(k:Nat) (s:TSector),k<i→l[k]?=some s→s.Room.length≤4∧∀v∈s.Room,VolOk v) _ (fun y=>l.length-y.1.toNat) ?_ n ((0),[]) ⟨0,[],rfl,Nat.zero_le _,Nat.zero_le _,fun k v h=>absurd h (Nat.not_lt_zero _)⟩ (by show l.length-(0:Int).toNat<n;omega)
 rintro _ ⟨i,L,rfl,hi,hL,hv⟩
 show (∃y,S110_0 n l 0 (l.length:Int) (i:Int) L=some (.inl y)∧_∧_)∨∃r,S110_0 n l 0 (l.length:Int) (i:Int) L=some (.inr r)∧_
 unfold S110_0
 rcases Nat.lt_or_ge i l.length with hlt|hge
 ·have hx:l[i]?=some l[i]:=List.getElem?_eq_getElem hlt
  generalize l[i]=x at hx
  obtain ⟨b,hb⟩:=sname_tot n (by omega) x.Name
  rw [decide_eq_true (show (i:Int)<_ by omega),cond_true,getI_at hx,Option.bind_some,hb,Option.bind_some]
  cases b with
  |false=>exact .inr ⟨_,rfl,fun h=>by cases h⟩
  |true=>
  rw [Bool.not_true,cond_false]
  by_cases h0:(x.Room.length:Int)=0
  ·rw [beq_iff_eq.2 h0,cond_true];exact .inr ⟨_,rfl,fun h=>by cases h⟩
  by_cases h4:(x.Room.length:Int)>4
  ·rw [beq_eq_false_iff_ne.2 h0,cond_false,decide_eq_true h4,cond_true];exact .inr ⟨_,rfl,fun h=>by cases h⟩
  rw [beq_eq_false_iff_ne.2 h0,cond_false,decide_eq_false h4,cond_false]
  obtain ⟨r,hr,⟨rfl,hvs⟩|⟨z,hz,rfl⟩⟩:=room_loop n hn l (by omega) i hlt (l.length:Int) x.Room x.Name (by omega) (fun e=>h0 (by rw [e];rfl)) L (by omega)
  ·refine .inl ⟨_,hr,⟨i+1,L++x.Room,rfl,hlt,by rw [List.length_append];omega,fun k s hk hks=> ?_⟩,by show l.length-((i+1:Nat):Int).toNat<l.length-(i:Int).toNat;omega⟩
   by_cases e:k=i
   ·subst e;rw [hx] at hks;cases hks;exact ⟨by omega,hvs⟩
   ·exact hv k s (by omega) hks
  ·exact .inr ⟨z,hr,fun h=>absurd h hz⟩
 ·obtain ⟨z,hz⟩:=apart_loop n hn L (by omega)
  rw [decide_eq_false (show ¬(i:Int)<_ by omega),cond_false,hz]
  refine .inr ⟨z,rfl,fun _=>⟨by omega,fun s hs=> ?_⟩⟩
  obtain ⟨k,hk⟩:=List.getElem?_of_mem hs
  exact hv k s (by have:=some_lt hk;omega) hk
/- a point's sector -/
theorem in_room (n:Nat) (hn:4500<n) (x y h:Int) (R:List TVolume) (hR:R.length≤4) (hv:∀v∈R,VolOk v):∃b,g181 n R x y h=some b:=by
 unfold g181 g245
 refine bind_tot (iter_tot R.length (fun i hi=> ?_) (fun i hi=> ?_) n 0 (by omega)) fun _=>⟨_,rfl⟩
 ·have hx:R[i]?=some R[i]:=List.getElem?_eq_getElem hi
  generalize R[i]=v at hx
  have hp:=hv v (List.mem_of_getElem? hx)
  have hp2:=hp.hi
  have hc:∃b,g182 n v x y h=some b:=by
   unfold g182 g183
   exact bind_tot (bif_tot (bif_tot (bind_tot (place_tot n v.Area _ (by omega) (by omega)) fun _=>⟨_,rfl⟩) ⟨_,rfl⟩) ⟨_,rfl⟩) fun _=>⟨_,rfl⟩
  obtain ⟨b,hb⟩:=hc
  show S245_0 n R x y h (0) (R.length:Int) (i:Int)=_∨∃r,S245_0 n R x y h (0) (R.length:Int) (i:Int)=_
  unfold S245_0
  rw [decide_eq_true (show (i:Int)<_ by omega),cond_true,getI_at hx,Option.bind_some,hb,Option.bind_some,wS (by omega)]
  cases b
  ·exact .inl rfl
  ·exact .inr ⟨_,rfl⟩
 ·show ∃r,S245_0 n R x y h (0) (R.length:Int) (i:Int)=_
  unfold S245_0
  rw [decide_eq_false (show ¬(i:Int)<_ by omega)]
  exact ⟨_,rfl⟩
theorem place_val (n:Nat) (hn:4500<n) (l:List TSector) (hl:SecOk l) (at_:TP) (h:Int):∃i:Int,g112 n l at_ h=some i∧-1≤i∧i<(l.length:Int):=by
 have hlen:=hl.len
 unfold g112 g179
 have e:=index_loop (fun s:TSector=>(g180 n s at_.X at_.Y h).getD false) l (by omega) (S:=fun y:Int=>S179_0 n l at_.X at_.Y h (0) (l.length:Int) y) (fun i s hs=>by
  have:=some_lt hs
  obtain ⟨h1,h2⟩:=hl.rooms s (List.mem_of_getElem? hs)
  obtain ⟨b,hb⟩:=in_room n hn at_.X at_.Y h s.Room h1 h2
  have hb2:g180 n s at_.X at_.Y h=some b:=by
   unfold g180
   rw [hb];rfl
  show S179_0 n l at_.X at_.Y h (0) (l.length:Int) (i:Int)=_
  unfold S179_0
  rw [decide_eq_true (show (i:Int)<_ by omega),cond_true,getI_at hs,Option.bind_some,hb2,Option.bind_some,wS (by omega)]
  cases b<;>rfl) (by
  show S179_0 n l at_.X at_.Y h (0) (l.length:Int) (l.length:Int)=_
  unfold S179_0
  rw [decide_eq_false (Int.lt_irrefl _)];rfl) n (by omega)
 rw [e]
 exact ⟨_,rfl,(idxL_ge _ l).1,(idxL_ge _ l).2⟩
end Go.Proofs.YtlenkbgeomojnaaGreatDoor
