/- A part. -/
import Derived.Test.YtkdodbfnocdkdaaGreatDoorX1G
import Derived.Test.YtkdodbfnocdkdaaGreatDoorMaK
import Derived.Test.YtkdodbfnocdkdaaGreatDoorSnK
set_option linter.unusedVariables false
set_option linter.unusedSimpArgs false
set_option maxHeartbeats 4000000
namespace Go.Proofs.YtkdodbfnocdkdaaGreatDoor
def T9 (p:TP):Prop:= -1000000≤p.X∧p.X≤1000000∧-1000000≤p.Y∧p.Y≤1000000
theorem Jt (n:Nat) (p:TP):(Ty n p=some 0∧T9 p)∨(Ty n p=some 4∧¬T9 p):=by
 unfold Ty T9
 simp only [cond_eq_ite,decide_eq_true_eq]
 repeat' split
 all_goals first|(right;exact ⟨rfl,by omega⟩)|(left;exact ⟨rfl,by omega⟩)
def Hl (x:Ab):Prop:=0≤x.Ac∧x.Ac≤200000∧T9 ⟨x.Ak,x.Aj⟩∧0≤x.Af∧x.Af≤60000∧0≤x.Aw∧x.Aw≤1000000∧0≤x.Bi∧x.Bi≤60000
structure Cg (l:List Ab):Prop where
 pos:1≤l.length
 len:l.length≤64
 nodes:∀x∈l,Hl x
 inc:∀(i:Nat) (x y:Ab),l[i]?=some x→l[i+1]?=some y→x.Ac<y.Ac
theorem Vl (n:Nat) (x:Ab) (w:Int) (h0:¬x.Ac<0) (h1:¬x.Ac>200000) {s:Int⊕Int} (hs:((Ty n (⟨x.Ak,x.Aj⟩:TP)).bind fun x6=>
bif (x6 !=(0)) then (
some (.inr (x6))) else (
bif (decide (x.Af<(0))) then (
some (.inr (4))) else (
bif (decide (x.Af>(60000))) then (
some (.inr (4))) else (
bif (decide (x.Aw<(0))) then (
some (.inr (4))) else (
bif (decide (x.Aw>(1000000))) then (
some (.inr (4))) else (
bif (decide (x.Bi<(0))) then (
some (.inr (4))) else (
bif (decide (x.Bi>(60000))) then (
some (.inr (4))) else (
some (.inl w)))))))))=some s):(s=.inl w∧Hl x)∨∃r,s=.inr r∧r≠0:=by
 rcases Jt n ⟨x.Ak,x.Aj⟩ with ⟨e,hp⟩|⟨e,hp⟩
 ·rw [e,Option.bind_some,show ((0:Int) !=0)=false from rfl,cond_false] at hs
  simp only [cond_eq_ite,decide_eq_true_eq] at hs
  repeat' split at hs
  all_goals cases hs
  all_goals first|(right;exact ⟨_,rfl,by decide⟩)|(left;exact ⟨rfl,by omega,by omega,hp,by omega,by omega,by omega,by omega,by omega,by omega⟩)
 ·rw [e,Option.bind_some,show ((4:Int) !=0)=true from rfl,cond_true] at hs
  cases hs
  exact .inr ⟨_,rfl,by decide⟩
theorem h9 (n:Nat) (l:List Ab) (hl:l.length≤64) (i:Nat) (x:Ab) (hx:l[i]?=some x):
  (K6 n l 0 (l.length:Int) (i:Int)=some (.inl ((i+1:Nat):Int))∧Hl x∧∀y,0<i→l[i-1]?=some y→y.Ac<x.Ac)∨∃r,K6 n l 0 (l.length:Int) (i:Int)=some (.inr r)∧r≠0:=by
 have hlt:=Dt hx
 unfold K6
 rw [decide_eq_true (show (i:Int)<(l.length:Int) by omega),Bl hx,cond_true,Option.bind_some,wS (show i<9223372036854775807 by omega)]
 by_cases a1:x.Ac<0
 ·rw [decide_eq_true a1,cond_true];exact .inr ⟨12,rfl,by decide⟩
 rw [decide_eq_false a1,cond_false]
 by_cases a2:x.Ac>200000
 ·rw [decide_eq_true a2,cond_true];exact .inr ⟨12,rfl,by decide⟩
 rw [decide_eq_false a2,cond_false]
 have fin:∀s:Option (Int⊕Int),(∀q,s=some q→(q=.inl ((i+1:Nat):Int)∧Hl x)∨∃r,q=.inr r∧r≠0)→s≠none→(∀y,0<i→l[i-1]?=some y→y.Ac<x.Ac)→(s=some (.inl ((i+1:Nat):Int))∧Hl x∧∀y,0<i→l[i-1]?=some y→y.Ac<x.Ac)∨∃r,s=some (.inr r)∧r≠0:=by
  intro s h1 h2 h3
  cases s with
  |none=>exact absurd rfl h2
  |some q=>
   rcases h1 q rfl with ⟨rfl,h⟩|⟨r,rfl,h⟩
   ·exact .inl ⟨rfl,h,h3⟩
   ·exact .inr ⟨r,rfl,h⟩
 have nn:∀(w:Int),((Ty n (⟨x.Ak,x.Aj⟩:TP)).bind fun x6=>
bif (x6 !=(0)) then (
some (Sum.inr (x6))) else (
bif (decide (x.Af<(0))) then (
some (.inr (4))) else (
bif (decide (x.Af>(60000))) then (
some (.inr (4))) else (
bif (decide (x.Aw<(0))) then (
some (.inr (4))) else (
bif (decide (x.Aw>(1000000))) then (
some (.inr (4))) else (
bif (decide (x.Bi<(0))) then (
some (.inr (4))) else (
bif (decide (x.Bi>(60000))) then (
some (.inr (4))) else (
some (.inl w)))))))))≠none:=by
  intro w
  rcases Jt n ⟨x.Ak,x.Aj⟩ with ⟨e,-⟩|⟨e,-⟩
  ·rw [e,Option.bind_some,show ((0:Int) !=0)=false from rfl]
   simp only [cond_false,cond_eq_ite]
   repeat' split
   all_goals exact fun h=>by cases h
  ·rw [e,Option.bind_some,show ((4:Int) !=0)=true from rfl,cond_true]
   exact fun h=>by cases h
 rcases i with _|j
 ·rw [show decide (((0:Nat):Int)>0)=false from rfl,cond_false]
  exact fin _ (fun q hq=>Vl n x _ a1 a2 hq) (nn _) (fun y h=>absurd h (Nat.lt_irrefl 0))
 ·have hj:j<l.length:=by omega
  have hy:l[j]?=some l[j]:=List.getElem?_eq_getElem hj
  have hwj:IntKind.wrap .i64 (((j+1:Nat):Int)-1)=(j:Int):=by rw [wrap64 (by omega) (by omega)];omega
  rw [decide_eq_true (show ((j+1:Nat):Int)>0 by omega),cond_true,hwj,Bl hy,Option.bind_some]
  by_cases a3:x.Ac≤l[j].Ac
  ·rw [decide_eq_true a3,cond_true];exact .inr ⟨12,rfl,by decide⟩
  rw [decide_eq_false a3,cond_false]
  exact fin _ (fun q hq=>Vl n x _ a1 a2 hq) (nn _) (fun y _ h=>by rw [Nat.add_sub_cancel,hy] at h;cases h;omega)
theorem Ss (n:Nat) (hn:64<n) (l:List Ab):(Kg n l=some 0∧Cg l)∨∃z,z≠0∧Kg n l=some z:=by
 unfold Kg
 by_cases h1:(l.length:Int)>64
 ·right;exact ⟨2,by decide,by rw [decide_eq_true h1];rfl⟩
 rw [decide_eq_false h1,cond_false]
 by_cases h2:(l.length:Int)=0
 ·right;exact ⟨3,by decide,by rw [h2];rfl⟩
 rw [show ((l.length:Int)==0)=false from beq_eq_false_iff_ne.2 h2,cond_false]
 obtain ⟨r,hr,h⟩:=Oi (S:=fun y:Int=>K6 n l 0 (l.length:Int) y) l (fun i x=>Hl x∧∀y,0<i→l[i-1]?=some y→y.Ac<x.Ac) (fun r=>r≠0) 0 (fun i x hx=>h9 n l (by omega) i x hx) (by
  unfold K6
  rw [decide_eq_false (Int.lt_irrefl _)];rfl) n (by omega)
 rcases h with h|⟨rfl,h⟩
 ·right;exact ⟨r,h,hr⟩
 ·left
  refine ⟨hr,by omega,by omega,fun x hx=> ?_,fun i x y hx hy=>(h (i+1) y hy).2 x (Nat.succ_pos i) hx⟩
  obtain ⟨i,hi⟩:=List.getElem?_of_mem hx
  exact (h i x hi).1
theorem Cg.lt {l:List Ab} (h:Cg l):∀(d i:Nat) (x y:Ab),l[i]?=some x→l[i+d+1]?=some y→x.Ac<y.Ac
 |0,i,x,y,hx,hy=>h.inc i x y hx hy
 |d+1,i,x,y,hx,hy=>by
  have:=Dt hy
  have hz:l[i+d+1]?=some l[i+d+1]:=List.getElem?_eq_getElem (by omega)
  have h1:=Cg.lt h d i x _ hx hz
  have h2:=h.inc (i+d+1) _ y hz hy
  omega
theorem Cg.lt' {l:List Ab} (h:Cg l) {i j:Nat} {x y:Ab} (hij:i<j) (hx:l[i]?=some x) (hy:l[j]?=some y):x.Ac<y.Ac:=
 h.lt (j-i-1) i x y hx (by rw [show i+(j-i-1)+1=j by omega];exact hy)
theorem Cg.le' {l:List Ab} (h:Cg l) {i j:Nat} {x y:Ab} (hij:i≤j) (hx:l[i]?=some x) (hy:l[j]?=some y):x.Ac≤y.Ac:=by
 rcases Nat.eq_or_lt_of_le hij with rfl|h'
 ·rw [hx] at hy;cases hy;exact Int.le_refl _
 ·exact Int.le_of_lt (h.lt' h' hx hy)
theorem half {a b:Nat} (h:a+b<2000):IntKind.wrap .i64 (Int.fdiv (IntKind.wrap .u64 (IntKind.wrap .i64 ((a:Int)+(b:Int)))) 2)=(((a+b) / 2:Nat):Int):=by
 rw [wrap64 (z:=(a:Int)+(b:Int)) (by omega) (by omega)]
 have e:IntKind.wrap .u64 ((a:Int)+(b:Int))=(a:Int)+(b:Int):=IntWalk.u64_in _ (by omega)
 rw [e,Int.fdiv_eq_ediv_of_nonneg _ (by decide),wrap64 (by omega) (by omega)]
 omega
theorem On (n:Nat) (hn:64<n) (l:List Ab) (h:Cg l) (t:Int) (ht: -1000000≤t∧t≤1000000):
  ∃i:Nat,i≤l.length∧(∀j x,j<i→l[j]?=some x→x.Ac<t)∧(∀j x,i≤j→l[j]?=some x→t≤x.Ac)∧∃b,oL n l t=some ((i:Int),b)∧(b=true↔∃x,l[i]?=some x∧x.Ac=t):=by
 have hlen:=h.len
 have cmp:∀x∈l,iZ n x t=some (x.Ac-t):=fun x hx=>by
  have:=(h.nodes x hx)
  unfold iZ
  rw [wrap64 (by have:=this.1;omega) (by have:=this.2.1;omega)]
 obtain ⟨r,hr,i,hi,h1,h2,h3,h4⟩:=Ei (S:=fun y:Int×Int=>Vy n l t 0 false (l.length:Int) y.1 y.2)
  (fun z=>∃a b:Nat,z=((a:Int),(b:Int))∧a≤b∧b≤l.length∧(∀j x,j<a→l[j]?=some x→x.Ac<t)∧∀j x,b≤j→l[j]?=some x→t≤x.Ac)
  (fun r=>∃i:Nat,i≤l.length∧(∀j x,j<i→l[j]?=some x→x.Ac<t)∧(∀j x,i≤j→l[j]?=some x→t≤x.Ac)∧r.1=(i:Int)∧(r.2=true↔∃x,l[i]?=some x∧x.Ac=t))
  (fun z=>(z.2-z.1).toNat) (by
   rintro _ ⟨a,b,rfl,hab,hb,hlo,hhi⟩
   simp only []
   unfold Vy
   rcases Nat.eq_or_lt_of_le hab with rfl|hlt
   ·right
    rw [decide_eq_false (show ¬(a:Int)<(a:Int) from Int.lt_irrefl _),cond_false]
    rcases Nat.lt_or_ge a l.length with hal|hal
    ·have hx:l[a]?=some l[a]:=List.getElem?_eq_getElem hal
     have hz:=h.nodes _ (List.getElem_mem hal)
     rw [decide_eq_true (show (a:Int)<(l.length:Int) by omega),cond_true,Bl hx,Option.bind_some,cmp _ (List.getElem_mem hal),Option.bind_some]
     refine ⟨_,rfl,a,by omega,hlo,hhi,rfl,?_⟩
     show ((l[a].Ac-t==0)=true)↔_
     rw [beq_iff_eq]
     exact ⟨fun e=>⟨_,hx,by omega⟩,fun ⟨x,e,e2⟩=>by rw [hx] at e;cases e;omega⟩
    ·rw [decide_eq_false (show ¬(a:Int)<(l.length:Int) by omega),cond_false]
     refine ⟨_,rfl,a,by omega,hlo,hhi,rfl,?_⟩
     show (false=true)↔_
     simp only [Bool.false_eq_true,false_iff]
     rintro ⟨x,e,-⟩
     have:=Dt e;omega
   ·left
    rw [decide_eq_true (show (a:Int)<(b:Int) by omega),cond_true,half (by omega)]
    have hm:(a+b) / 2<l.length:=by omega
    have hx:l[(a+b) / 2]?=some l[(a+b) / 2]:=List.getElem?_eq_getElem hm
    rw [Bl hx,Option.bind_some,cmp _ (List.getElem_mem hm),Option.bind_some]
    by_cases hc:l[(a+b) / 2].Ac-t<0
    ·rw [decide_eq_true hc,cond_true,wS (by omega)]
     refine ⟨_,rfl,⟨(a+b) / 2+1,b,rfl,by omega,hb,fun j x hj hxj=> ?_,hhi⟩,by simp only [];omega⟩
     have:=h.le' (show j≤(a+b) / 2 by omega) hxj hx
     omega
    ·rw [decide_eq_false hc,cond_false]
     refine ⟨_,rfl,⟨a,(a+b) / 2,rfl,by omega,by omega,hlo,fun j x hj hxj=> ?_⟩,by simp only [];omega⟩
     have:=h.le' hj hx hxj
     omega) n (0,(l.length:Int)) ⟨0,l.length,rfl,Nat.zero_le _,Nat.le_refl _,fun j x hj=>absurd hj (Nat.not_lt_zero _),fun j x hj hx=>absurd (Dt hx) (Nat.not_lt_of_le hj)⟩ (by simp only [];omega)
 refine ⟨i,hi,h1,h2,r.2,?_,h4⟩
 unfold oL
 rw [hr,← h3]
theorem Nc (n:Nat) (a b:Int):∃r,O3 n a b=some r∧(r.2=0→b≠0):=by
 unfold O3
 by_cases hb:b=0
 ·rw [show (b==0)=true from beq_iff_eq.2 hb,cond_true];exact ⟨_,rfl,fun h=>by cases h⟩
 rw [show (b==0)=false from beq_eq_false_iff_ne.2 hb,cond_false]
 have hd:Ky a b=some (a.tdiv b):=by simp [Ky,hb]
 have hm:L4 a b=some (a.tmod b):=by simp [L4,hb]
 rw [hd,hm]
 simp only [Option.bind_some,cond_eq_ite]
 repeat' split
 all_goals exact ⟨_,rfl,fun _=>hb⟩
theorem Zz (n:Nat) (a b:Int):∃r,Me n a b=some r:=by
 unfold Me
 obtain ⟨r,hr,h0⟩:=Nc n a b
 rw [hr,Option.bind_some]
 by_cases h:r.2=0
 ·have hb:=h0 h
  have hm:L4 a b=some (a.tmod b):=by simp [L4,hb]
  rw [show (r.2==0)=true from beq_iff_eq.2 h,cond_true,hm,Option.bind_some]
  simp only [cond_eq_ite]
  split<;>exact ⟨_,rfl⟩
 ·rw [show (r.2==0)=false from beq_eq_false_iff_ne.2 h,cond_false];exact ⟨_,rfl⟩
theorem iR (n:Nat) (a b:TP) (c d:Int):∃r,V9 n a b c d=some r:=by
 unfold V9
 simp only [cond_eq_ite]
 obtain ⟨r1,h1,-⟩:=Nc n (IntKind.wrap .i64 ((IntKind.wrap .i64 (b.X-a.X))*c)) d
 obtain ⟨r2,h2,-⟩:=Nc n (IntKind.wrap .i64 ((IntKind.wrap .i64 (b.Y-a.Y))*c)) d
 rw [h1,h2]
 rcases Jt n a with ⟨e,-⟩|⟨e,-⟩<;>rw [e]<;>simp only [Option.bind_some]<;>rcases Jt n b with ⟨e2,-⟩|⟨e2,-⟩<;>(try rw [e2])<;>simp only [Option.bind_some]<;>repeat' split
 all_goals exact ⟨_,rfl⟩
theorem Ais (n:Nat) (hn:64<n) (l:List Ab) (h:Cg l) (t:Int) (x0 x1:Ab) (h0:l[0]?=some x0) (h1:l[l.length-1]?=some x1) (ht0:x0.Ac≤t) (ht1:t≤x1.Ac):∃r,P1 n l t=some r:=by
 have hp:=h.pos
 have b0:=h.nodes x0 (List.mem_of_getElem? h0)
 have b1:=h.nodes x1 (List.mem_of_getElem? h1)
 obtain ⟨i,hi,k1,k2,b,hb,hbt⟩:=On n hn l h t (by have:=b0.1;have:=b1.2.1;omega)
 unfold P1
 rw [hb,Option.bind_some]
 cases b with
 |true=>
  obtain ⟨x,hx,-⟩:=hbt.1 rfl
  simp only [cond_true]
  rw [Bl hx];exact ⟨_,rfl⟩
 |false=>
  simp only [cond_false]
  have hil:i<l.length:=by
   rcases Nat.lt_or_ge i l.length with h'|h'
   ·exact h'
   ·have:=k1 (l.length-1) x1 (by omega) h1;omega
  have hi0:0<i:=by
   rcases Nat.eq_zero_or_pos i with rfl|h'
   ·have:=k2 0 x0 (Nat.le_refl _) h0
    have:=hbt.2 ⟨x0,h0,by omega⟩
    cases this
   ·exact h'
  have ha:l[i-1]?=some l[i-1]:=List.getElem?_eq_getElem (by omega)
  have hb':l[i]?=some l[i]:=List.getElem?_eq_getElem hil
  have hw:IntKind.wrap .i64 ((i:Int)-1)=((i-1:Nat):Int):=by have:=h.len;rw [wrap64 (by omega) (by omega)];omega
  rw [hw,Bl ha,Bl hb']
  simp only [Option.bind_some]
  obtain ⟨q1,e1⟩:=iR n (⟨l[i-1].Ak,l[i-1].Aj⟩:TP) (⟨l[i].Ak,l[i].Aj⟩:TP) (IntKind.wrap .i64 (t-l[i-1].Ac)) (IntKind.wrap .i64 (l[i].Ac-l[i-1].Ac))
  rw [e1,Option.bind_some]
  obtain ⟨q2,e2,-⟩:=Nc n (IntKind.wrap .i64 ((IntKind.wrap .i64 (l[i].Af-l[i-1].Af))*(IntKind.wrap .i64 (t-l[i-1].Ac)))) (IntKind.wrap .i64 (l[i].Ac-l[i-1].Ac))
  rw [e2,Option.bind_some]
  obtain ⟨q3,e3⟩:=Zz n (IntKind.wrap .i64 ((IntKind.wrap .i64 (l[i].Aw-l[i-1].Aw))*(IntKind.wrap .i64 (t-l[i-1].Ac)))) (IntKind.wrap .i64 (l[i].Ac-l[i-1].Ac))
  rw [e3,Option.bind_some]
  obtain ⟨q4,e4⟩:=Zz n (IntKind.wrap .i64 ((IntKind.wrap .i64 (l[i].Bi-l[i-1].Bi))*(IntKind.wrap .i64 (t-l[i-1].Ac)))) (IntKind.wrap .i64 (l[i].Ac-l[i-1].Ac))
  rw [e4,Option.bind_some]
  exact ⟨_,rfl⟩
def xG:Ab:=⟨0,0,0,0,0,0⟩
theorem Jr (n:Nat) (hn:64<n) (l:List Ab) (h:Cg l) (hc:Kg n l=some 0) (t:Int) (x0 x1:Ab) (h0:l[0]?=some x0) (h1:l[l.length-1]?=some x1):
  (x0.Ac≤t∧t≤x1.Ac∧∃r,P1 n l t=some r∧S0 n l t=some (r,0))∨((t<x0.Ac∨x1.Ac<t)∧S0 n l t=some (xG,12)):=by
 have hp:=h.pos
 have hl:=h.len
 unfold S0 xY
 have hw:IntKind.wrap .i64 ((l.length:Int)-1)=((l.length-1:Nat):Int):=by rw [wrap64 (by omega) (by omega)];omega
 have g0:Ch l 0=some x0:=Bl (i:=0) h0
 rw [hc,Option.bind_some,show ((0:Int) !=0)=false from rfl,cond_false,hw,Bl h1,g0]
 simp only [Option.bind_some]
 by_cases a1:t<x0.Ac
 ·rw [decide_eq_true a1,cond_true];exact .inr ⟨.inl a1,rfl⟩
 rw [decide_eq_false a1,cond_false]
 by_cases a2:t>x1.Ac
 ·rw [decide_eq_true a2,cond_true];exact .inr ⟨.inr a2,rfl⟩
 rw [decide_eq_false a2,cond_false]
 obtain ⟨r,hr⟩:=Ais n hn l h t x0 x1 h0 h1 (by omega) (by omega)
 exact .inl ⟨by omega,by omega,r,hr,by rw [hr];rfl⟩
end Go.Proofs.YtkdodbfnocdkdaaGreatDoor
set_option linter.unusedVariables false
set_option linter.unusedSimpArgs false
namespace Go.Proofs.YtkdodbfnocdkdaaGreatDoor
def atR (n:Nat) (l:List Ab) (t:Int):Ab×Int:=(S0 n l t).getD (xG,12)
def Ars (n:Nat) (a b:List Ab) (t:Int):Prop:=(atR n a t).2≠(atR n b t).2∨((atR n a t).1.Ak≠(atR n b t).1.Ak∨(atR n a t).1.Aj≠(atR n b t).1.Aj)∨(atR n a t).1.Af≠(atR n b t).1.Af
theorem Zj (n:Nat) (hn:64<n) (l:List Ab) (h:Cg l) (hc:Kg n l=some 0) (t:Int):S0 n l t=some (atR n l t)∧((atR n l t).2=0∨atR n l t=(xG,12)):=by
 have hp:=h.pos
 have h0:l[0]?=some l[0]:=List.getElem?_eq_getElem hp
 have h1:l[l.length-1]?=some l[l.length-1]:=List.getElem?_eq_getElem (by omega)
 rcases Jr n hn l h hc t _ _ h0 h1 with ⟨-,-,r,-,e⟩|⟨-,e⟩
 ·unfold atR;rw [e];exact ⟨rfl,.inl rfl⟩
 ·unfold atR;rw [e];exact ⟨rfl,.inr rfl⟩
end Go.Proofs.YtkdodbfnocdkdaaGreatDoor
set_option linter.unusedVariables false
set_option linter.unusedSimpArgs false
namespace Go.Proofs.YtkdodbfnocdkdaaGreatDoor
theorem Un (n:Nat) (hn:16<n) (s:ByteArray):∃b,g77 n s=some b:=by
 unfold g77
 by_cases h1:(s.size:Int)<1
 ·simp [h1]
 by_cases h2:(s.size:Int)>8
 ·simp [h1,h2]
 have hl:s.data.toList.length=s.size:=Array.length_toList
 rw [decide_eq_false h1,decide_eq_false h2,Fk (by omega) (by omega)]
 simp only [cond_false,Option.bind_some]
 obtain ⟨r,h,-⟩:=Ei (S:=fun y:Int=>Mt n false (s.data.toList) ((s.data.toList).length:Int) y) (fun x=>∃i:Nat,i≤s.data.toList.length∧x=(i:Int)) (fun _=>True) (fun x=>s.data.toList.length-x.toNat) (by
  rintro _ ⟨i,hi,rfl⟩
  rcases Nat.lt_or_ge i s.data.toList.length with hlt|hge
  ·have hx:=Bl (List.getElem?_eq_getElem hlt)
   have hw:=wS (i:=i) (by omega)
   have key:Mt n false (s.data.toList) ((s.data.toList).length:Int) (i:Int)=some (.inl (((i+1:Nat):Int)))∨∃r,Mt n false (s.data.toList) ((s.data.toList).length:Int) (i:Int)=some (.inr r):=by
    unfold Mt
    rw [decide_eq_true (show (i:Int)<_ by omega),hx,hw]
    simp only [cond_true,Option.bind_some]
    repeat' (rw [Bool.cond_eq_ite];split)
    all_goals simp
   rcases key with k|⟨r,k⟩
   ·exact .inl ⟨_,k,⟨i+1,hlt,rfl⟩,by simp;omega⟩
   ·exact .inr ⟨r,k,trivial⟩
  ·have:i=s.data.toList.length:=by omega
   subst this
   refine .inr ⟨true,?_,trivial⟩
   unfold Mt
   simp) n 0 ⟨0,Nat.zero_le _,rfl⟩ (by simp;omega)
 exact ⟨r,h⟩
theorem zI (n:Nat) (hn:16<n) (s:ByteArray):∃z,Zs n s=some z:=by
 unfold Zs mU
 generalize hl:([(⟨#[72,69,73,71,72,84]⟩:ByteArray),(⟨#[72,69,65,68,73,78,71]⟩:ByteArray),(⟨#[83,80,69,69,68]⟩:ByteArray),(⟨#[68,73,82,69,67,84]⟩:ByteArray),(⟨#[72,79,76,68]⟩:ByteArray),(⟨#[67,79,78,84,65,67,84]⟩:ByteArray),(⟨#[76,65,78,68]⟩:ByteArray)]:List ByteArray)=l
 have hlen:l.length=7:=by rw [← hl];rfl
 have e:=Ii (fun x:ByteArray=>s.toList==x.toList) l (by omega) (S:=fun y:Int=>K0 n l s 0 (l.length:Int) y) (fun i x hx=>by
  have:=Dt hx
  unfold K0
  rw [decide_eq_true (show (i:Int)<_ by omega),Bl hx,wS (by omega)]
  simp only [cond_true,Option.bind_some]
  by_cases h:(s.toList==x.toList)=true<;>simp [h]) (by
  unfold K0
  simp) n (by omega)
 rw [e]
 exact ⟨_,rfl⟩
theorem Rq (n:Nat) (hn:16<n) (s:ByteArray):∃b,Su n s=some b:=by
 unfold Su
 obtain ⟨b,hb⟩:=Un n hn s
 obtain ⟨z,hz⟩:=zI n hn s
 rw [hb]
 cases b with
 |false=>exact ⟨_,rfl⟩
 |true=>simp only [Option.bind_some,cond_true,hz];exact ⟨_,rfl⟩
theorem P7 (n:Nat) (hn:16<n) (c:Ae):∃z,Po n c=some z:=by
 unfold Po
 obtain ⟨b,hb⟩:=Rq n hn c.Call
 obtain ⟨b2,hb2⟩:=Rq n hn c.Fix
 rw [hb]
 simp only [Option.bind_some,hb2]
 cases b with
 |false=>exact ⟨_,rfl⟩
 |true=>
  simp only [Bool.not_true,cond_false]
  by_cases h1:c.Kind<0
  ·rw [decide_eq_true h1];exact ⟨_,rfl⟩
  by_cases h2:c.Kind>6
  ·rw [decide_eq_false h1,decide_eq_true h2];exact ⟨_,rfl⟩
  rw [decide_eq_false h1,decide_eq_false h2]
  simp only [cond_false]
  by_cases h3:c.Kind>2
  ·rw [decide_eq_true h3,cond_true]
   cases (c.Value !=0)<;>cases b2<;>exact ⟨_,rfl⟩
  ·rw [decide_eq_false h3,cond_false]
   obtain ⟨x,hx⟩:∃x,Ch ([60000,4095,400]:List Int) c.Kind=some x:=by
    rcases (by omega:c.Kind=0∨c.Kind=1∨c.Kind=2) with h|h|h<;>rw [h]<;>exact ⟨_,rfl⟩
   rw [hx]
   simp only [Option.bind_some]
   cases (!(c.Fix.toList==(⟨#[]⟩:ByteArray).toList))<;>cases decide (c.Value<0)<;>cases decide (c.Value>x)<;>exact ⟨_,rfl⟩
theorem Ov (n:Nat) (hn:16<n) (k:Dg):∃z,o9 n k=some z∧(z=0→1≤k.C5∧k.C5≤200∧1≤k.Cb∧k.Cb≤200∧1≤k.Eg∧k.Eh≤400∧1≤k.B8∧k.B8≤60000):=by
 unfold o9
 obtain ⟨b,hb⟩:=Un n hn k.Name
 have w:∀x m:Int,∃c:Bool,We n x m=some c∧(c=false→1≤x∧x≤m):=fun x m=>by
  unfold We
  by_cases h:x<1
  ·rw [decide_eq_true h];exact ⟨true,rfl,fun h=>by cases h⟩
  ·rw [decide_eq_false h];exact ⟨_,rfl,fun h2=>by have:=of_decide_eq_false h2;omega⟩
 obtain ⟨c1,e1,k1⟩:=w k.B8 60000
 obtain ⟨c2,e2,k2⟩:=w k.C5 200
 obtain ⟨c3,e3,k3⟩:=w k.Cb 200
 obtain ⟨c4,e4,k4⟩:=w k.Eg 400
 obtain ⟨c5,e5,k5⟩:=w k.Eh 400
 rw [hb,e1,e2,e3,e4,e5]
 simp only [Option.bind_some]
 cases b
 ·exact ⟨5,rfl,fun h=>by cases h⟩
 simp only [Bool.not_true,cond_false]
 cases decide (k.Fa<0) with
 |true=>exact ⟨1,rfl,fun h=>by cases h⟩
 |false=>
 cases decide (k.Fa>3) with
 |true=>exact ⟨1,rfl,fun h=>by cases h⟩
 |false=>
 simp only [cond_false]
 cases c1 with
 |true=>exact ⟨4,rfl,fun h=>by cases h⟩
 |false=>
 cases c2 with
 |true=>exact ⟨4,rfl,fun h=>by cases h⟩
 |false=>
 cases c3 with
 |true=>exact ⟨4,rfl,fun h=>by cases h⟩
 |false=>
 cases c4 with
 |true=>exact ⟨4,rfl,fun h=>by cases h⟩
 |false=>
 cases c5 with
 |true=>exact ⟨4,rfl,fun h=>by cases h⟩
 |false=>
 cases decide (k.Eg>k.Eh)
 ·exact ⟨0,rfl,fun _=>⟨(k2 rfl).1,(k2 rfl).2,(k3 rfl).1,(k3 rfl).2,(k4 rfl).1,(k5 rfl).2,(k1 rfl).1,(k1 rfl).2⟩⟩
 ·exact ⟨3,rfl,fun h=>by cases h⟩
def Ri (l:List Ab) (t:Int):List Ab:=l.filter fun x=>decide (x.Ac<t)
def Fy (l:List Ab) (t:Int):List Ab:=l.filter fun x=>decide (x.Ac>t)
def Et (l:List Ab) (c:Ae) (t:Int) (now:Ab) (k:Dg) (fix:TP):Fs:=
 ⟨c.Call,c.Kind,c.Value,c.Fix,Ri l t,Fy l t,now.Ac,now.Ak,now.Aj,now.Af,now.Aw,now.Bi,k.Name,k.Fa,k.B8,k.C5,k.Cb,k.Eg,k.Eh,fix.X,fix.Y,l⟩
def Nd (n:Nat) (l:List Ab) (c:Ae) (t:Int) (now:Ab) (k:Dg) (fix:TP):Option (List Ab×Int):=
 (g61 n (Et l c t now k fix)).bind fun x=>
  bif (x.2.2 !=(0)) then some ([],x.2.2) else
  bif x.2.1 then (D0 l.length 48).bind fun _=>some (l,(0)) else
  (Vb 48 ([Ri l t,([(⟨now.Ac,now.Ak,now.Aj,now.Af,now.Aw,now.Bi⟩:Ab)]:List Ab),x.1]:List (List Ab))).bind fun y=>bif (decide ((y.length:Int)>(64))) then some ([],(2)) else some (y,(0))
theorem take_one {α:Type} {l:List α} {i:Nat} {x:α} (h:l[i]?=some x):l.take (i+1)=l.take i++[x]:=by rw [List.take_add_one,h];rfl
def qA (l:List Ab) (c:Ae) (t:Int) (now:Ab) (k:Dg) (fix:TP) (i:Nat):Int×List Ab×List Ab×ByteArray×Int×Int×ByteArray×Int×Int×Int×Int×Int×Int×ByteArray×Int×Int×Int×Int×Int×Int×Int×Int×List Ab:=
 ((i:Int),Ri (l.take i) t,Fy (l.take i) t,c.Call,c.Kind,c.Value,c.Fix,now.Ac,now.Ak,now.Aj,now.Af,now.Aw,now.Bi,k.Name,k.Fa,k.B8,k.C5,k.Cb,k.Eg,k.Eh,fix.X,fix.Y,l)
theorem cJ (n:Nat) (l:List Ab) (hl:l.length≤64) (c:Ae) (t Kj Is:Int) (now:Ab) (k:Dg) (fix:TP) {S:(Int×List Ab×List Ab×ByteArray×Int×Int×ByteArray×Int×Int×Int×Int×Int×Int×ByteArray×Int×Int×Int×Int×Int×Int×Int×Int×List Ab)→Option ((Int×List Ab×List Ab×ByteArray×Int×Int×ByteArray×Int×Int×Int×Int×Int×Int×ByteArray×Int×Int×Int×Int×Int×Int×Int×Int×List Ab)⊕(List Ab×Int))}
  (hS:∀(i:Nat) (B L:List Ab),S ((i:Int),B,L,(qA l c t now k fix 0).2.2.2)=U4 n t Kj Is l (l.length:Int) now.Ac now.Ak now.Aj now.Af now.Aw now.Bi (i:Int) B L c.Call c.Kind c.Value c.Fix now.Ac now.Ak now.Aj now.Af now.Aw now.Bi k.Name k.Fa k.B8 k.C5 k.Cb k.Eg k.Eh fix.X fix.Y l):
  ∀(d i m:Nat),i+d=l.length→d<m→Bw S m (qA l c t now k fix i)=Nd n l c t now k fix
 |0,i,m,hi,hm=>by
  obtain ⟨q,rfl⟩:∃q,m=q+1:=⟨m-1,by omega⟩
  have e:S (qA l c t now k fix i)=(Nd n l c t now k fix).map Sum.inr:=by
   have hi':i=l.length:=by omega
   subst hi'
   rw [show qA l c t now k fix l.length=(((l.length:Nat):Int),Ri l t,Fy l t,(qA l c t now k fix 0).2.2.2) from by unfold qA;rw [List.take_length],hS]
   unfold U4 Nd
   rw [decide_eq_false (Int.lt_irrefl _),cond_false]
   show (g61 n (Et l c t now k fix)).bind _=_
   cases g61 n (Et l c t now k fix) with
   |none=>rfl
   |some x=>
    simp only [Option.bind_some]
    cases (x.2.2 !=0)
    ·cases x.2.1
     ·simp only [cond_false]
      cases Vb 48 ([Ri l t,([(⟨now.Ac,now.Ak,now.Aj,now.Af,now.Aw,now.Bi⟩:Ab)]:List Ab),x.1]:List (List Ab)) with
      |none=>rfl
      |some y=>
       simp only [Option.bind_some]
       cases decide ((y.length:Int)>64)<;>rfl
     ·simp only [cond_false,cond_true]
      cases D0 l.length 48<;>rfl
    ·rfl
  simp only [Bw,e]
  cases Nd n l c t now k fix<;>rfl
 |d+1,i,m,hi,hm=>by
  obtain ⟨q,rfl⟩:∃q,m=q+1:=⟨m-1,by omega⟩
  have hlt:i<l.length:=by omega
  have hx:l[i]?=some l[i]:=List.getElem?_eq_getElem hlt
  have e:S (qA l c t now k fix i)=some (.inl (qA l c t now k fix (i+1))):=by
   rw [show qA l c t now k fix i=((i:Int),Ri (l.take i) t,Fy (l.take i) t,(qA l c t now k fix 0).2.2.2) from rfl,hS]
   rw [show qA l c t now k fix (i+1)=(((i+1:Nat):Int),Ri (l.take (i+1)) t,Fy (l.take (i+1)) t,(qA l c t now k fix 0).2.2.2) from rfl,take_one hx]
   unfold U4 Ri Fy
   rw [decide_eq_true (show (i:Int)<(l.length:Int) by omega),cond_true,Bl hx,Option.bind_some,wS (by omega)]
   have r1:D0 (((l.take i).filter fun x=>decide (x.Ac<t)).length+([l[i]]:List Ab).length) 48=some ():=by
    have h1:=List.length_filter_le (fun x:Ab=>decide (x.Ac<t)) (l.take i)
    have h2:(l.take i).length≤64:=by rw [List.length_take];omega
    exact Fk (by simp only [List.length_singleton];omega) (by simp only [List.length_singleton];omega)
   have r2:D0 (((l.take i).filter fun x=>decide (x.Ac>t)).length+([l[i]]:List Ab).length) 48=some ():=by
    have h1:=List.length_filter_le (fun x:Ab=>decide (x.Ac>t)) (l.take i)
    have h2:(l.take i).length≤64:=by rw [List.length_take];omega
    exact Fk (by simp only [List.length_singleton];omega) (by simp only [List.length_singleton];omega)
   rw [r1,r2,List.filter_append,List.filter_append]
   simp only [Option.bind_some,List.filter_cons,List.filter_nil]
   by_cases a1:l[i].Ac<t
   ·have a2:¬l[i].Ac>t:=by omega
    simp only [a1,a2,decide_true,decide_false,cond_true,cond_false,if_true,Bool.false_eq_true,if_false,List.append_nil]
    rfl
   ·by_cases a2:l[i].Ac>t
    ·simp only [a1,a2,decide_true,decide_false,cond_true,cond_false,if_true,Bool.false_eq_true,if_false,List.append_nil]
     rfl
    ·simp only [a1,a2,decide_true,decide_false,cond_true,cond_false,if_true,Bool.false_eq_true,if_false,List.append_nil]
     rfl
  simp only [Bw,e]
  exact cJ n l hl c t Kj Is now k fix hS d (i+1) q (by omega) (by omega)
theorem bH (n:Nat) (hn:300<n) (l:List Ab) (c:Ae) (t:Int) (k:Dg) (fix:TP):(∃z,z≠0∧g11 n l c t k fix=some ([],z))∨
  (Kg n l=some 0∧Cg l∧o9 n k=some 0∧T9 fix∧∃now,S0 n l t=some (now,0)∧g11 n l c t k fix=Nd n l c t now k fix):=by
 have run:∀(s:Nat→Option (Int⊕(List Ab×Int))),True:=fun _=>trivial
 obtain ⟨m,rfl⟩:∃m,n=m+5:=⟨n-5,by omega⟩
 have w0:IntKind.wrap .i64 ((0:Int)+1)=1:=by rw [wrap64 (by decide) (by decide)];rfl
 have w1:IntKind.wrap .i64 ((1:Int)+1)=2:=by rw [wrap64 (by decide) (by decide)];rfl
 have w2:IntKind.wrap .i64 ((2:Int)+1)=3:=by rw [wrap64 (by decide) (by decide)];rfl
 have w3:IntKind.wrap .i64 ((3:Int)+1)=4:=by rw [wrap64 (by decide) (by decide)];rfl
 show (∃z,z≠0∧Bw (fun y:Int=>Jp (m+5) t 0 4 l c.Call c.Kind c.Value c.Fix k.Name k.Fa k.B8 k.C5 k.Cb k.Eg k.Eh fix.X fix.Y y) (m+5) 0=some ([],z))∨(_∧_∧_∧_∧∃now,_∧Bw (fun y:Int=>Jp (m+5) t 0 4 l c.Call c.Kind c.Value c.Fix k.Name k.Fa k.B8 k.C5 k.Cb k.Eg k.Eh fix.X fix.Y y) (m+5) 0=_)
 generalize hN:m+5=N at*
 have s0:Jp N t 0 4 l c.Call c.Kind c.Value c.Fix k.Name k.Fa k.B8 k.C5 k.Cb k.Eg k.Eh fix.X fix.Y 0=(Kg N l).bind fun x=>bif (x !=0) then some (.inr ([],x)) else some (.inl 1):=by
  unfold Jp g54
  rw [w0]
  cases Kg N l<;>rfl
 have s1:Jp N t 0 4 l c.Call c.Kind c.Value c.Fix k.Name k.Fa k.B8 k.C5 k.Cb k.Eg k.Eh fix.X fix.Y 1=(Po N c).bind fun x=>bif (x !=0) then some (.inr ([],x)) else some (.inl 2):=by
  unfold Jp g55
  rw [w1]
  show ((Po N c).bind fun x=>some x).bind _=_
  cases Po N c<;>rfl
 have s2:Jp N t 0 4 l c.Call c.Kind c.Value c.Fix k.Name k.Fa k.B8 k.C5 k.Cb k.Eg k.Eh fix.X fix.Y 2=(o9 N k).bind fun x=>bif (x !=0) then some (.inr ([],x)) else some (.inl 3):=by
  unfold Jp g56
  rw [w2]
  show ((o9 N k).bind fun x=>some x).bind _=_
  cases o9 N k<;>rfl
 have s3:Jp N t 0 4 l c.Call c.Kind c.Value c.Fix k.Name k.Fa k.B8 k.C5 k.Cb k.Eg k.Eh fix.X fix.Y 3=(Ty N fix).bind fun x=>bif (x !=0) then some (.inr ([],x)) else some (.inl 4):=by
  unfold Jp g58
  rw [w3]
  show ((Ty N fix).bind fun x=>some x).bind _=_
  cases Ty N fix<;>rfl
 rw [← hN]
 simp only [Bw]
 rw [hN,s0]
 rcases Ss N (by omega) l with ⟨ec,ok⟩|⟨z,hz,ec⟩
 case inr=>left;refine ⟨z,hz,?_⟩;rw [ec,Option.bind_some,bne_iff_ne.2 hz,cond_true]
 rw [ec,Option.bind_some,show ((0:Int) !=0)=false from rfl,cond_false]
 simp only [s1]
 obtain ⟨z1,e1⟩:=P7 N (by omega) c
 rw [e1,Option.bind_some]
 by_cases hz1:z1=0
 case neg=>left;refine ⟨z1,hz1,?_⟩;rw [bne_iff_ne.2 hz1,cond_true]
 subst hz1
 rw [show ((0:Int) !=0)=false from rfl,cond_false]
 simp only [s2]
 obtain ⟨z2,e2,-⟩:=Ov N (by omega) k
 rw [e2,Option.bind_some]
 by_cases hz2:z2=0
 case neg=>left;refine ⟨z2,hz2,?_⟩;rw [bne_iff_ne.2 hz2,cond_true]
 subst hz2
 rw [show ((0:Int) !=0)=false from rfl,cond_false]
 simp only [s3]
 rcases Jt N fix with ⟨e3,hp⟩|⟨e3,-⟩
 case inr=>left;refine ⟨4,by decide,?_⟩;rw [e3];rfl
 rw [e3,Option.bind_some,show ((0:Int) !=0)=false from rfl,cond_false]
 have hp0:=ok.pos
 have h0:l[0]?=some l[0]:=List.getElem?_eq_getElem hp0
 have h1:l[l.length-1]?=some l[l.length-1]:=List.getElem?_eq_getElem (by omega)
 have s4:Jp N t 0 4 l c.Call c.Kind c.Value c.Fix k.Name k.Fa k.B8 k.C5 k.Cb k.Eg k.Eh fix.X fix.Y 4=(S0 N l t).bind fun x=>bif (x.2 !=0) then some (.inr ([],x.2)) else (Nd N l c t x.1 k fix).map Sum.inr:=by
  unfold Jp
  rw [show decide ((4:Int)<4)=false from rfl,cond_false]
  cases S0 N l t with
  |none=>rfl
  |some x=>
   simp only [Option.bind_some]
   cases (x.2 !=0)
   ·simp only [cond_false]
    rw [← cJ N l ok.len c t 0 x.2 x.1 k fix (S:=fun y=>U4 N t 0 x.2 l (l.length:Int) x.1.Ac x.1.Ak x.1.Aj x.1.Af x.1.Aw x.1.Bi y.1 y.2.1 y.2.2.1 y.2.2.2.1 y.2.2.2.2.1 y.2.2.2.2.2.1 y.2.2.2.2.2.2.1 y.2.2.2.2.2.2.2.1 y.2.2.2.2.2.2.2.2.1 y.2.2.2.2.2.2.2.2.2.1 y.2.2.2.2.2.2.2.2.2.2.1 y.2.2.2.2.2.2.2.2.2.2.2.1 y.2.2.2.2.2.2.2.2.2.2.2.2.1 y.2.2.2.2.2.2.2.2.2.2.2.2.2.1 y.2.2.2.2.2.2.2.2.2.2.2.2.2.2.1 y.2.2.2.2.2.2.2.2.2.2.2.2.2.2.2.1 y.2.2.2.2.2.2.2.2.2.2.2.2.2.2.2.2.1 y.2.2.2.2.2.2.2.2.2.2.2.2.2.2.2.2.2.1 y.2.2.2.2.2.2.2.2.2.2.2.2.2.2.2.2.2.2.1 y.2.2.2.2.2.2.2.2.2.2.2.2.2.2.2.2.2.2.2.1 y.2.2.2.2.2.2.2.2.2.2.2.2.2.2.2.2.2.2.2.2.1 y.2.2.2.2.2.2.2.2.2.2.2.2.2.2.2.2.2.2.2.2.2.1 y.2.2.2.2.2.2.2.2.2.2.2.2.2.2.2.2.2.2.2.2.2.2) (fun i B L=>rfl) l.length 0 N (by omega) (by have:=ok.len;omega)]
    rfl
   ·rfl
 simp only [s4]
 rcases Jr N (by omega) l ok ec t _ _ h0 h1 with ⟨-,-,now,-,e4⟩|⟨-,e4⟩
 case inr=>left;refine ⟨12,by decide,?_⟩;rw [e4];rfl
 right
 refine ⟨by first|exact ec|trivial,ok,by first|exact e2|trivial,hp,now,e4,?_⟩
 rw [e4,Option.bind_some,show ((0:Int) !=0)=false from rfl,cond_false]
 cases Nd N l c t now k fix<;>rfl
end Go.Proofs.YtkdodbfnocdkdaaGreatDoor
set_option linter.unusedVariables false
set_option linter.unusedSimpArgs false
namespace Go.Proofs.YtkdodbfnocdkdaaGreatDoor
theorem Yt (n:Nat) (a b:Int) (ha:0≤a) (ha2:a≤1000000000000) (hb:0<b):∃q,Me n a b=some (q,0)∧0≤q∧q≤a+1∧a≤q*b:=by
 have hd:Ky a b=some (a / b):=by simp only [Ky,if_neg (show ¬b=0 by omega)];rw [Int.tdiv_eq_ediv_of_nonneg ha]
 have hm:L4 a b=some (a % b):=by simp only [L4,if_neg (show ¬b=0 by omega)];rw [Int.tmod_eq_emod_of_nonneg ha]
 have q0:0≤a / b:=Int.ediv_nonneg ha (by omega)
 have q1:a / b≤a:=Int.ediv_le_self b ha
 have r0:0≤a % b:=Int.emod_nonneg a (by omega)
 have r1:a % b<b:=Int.emod_lt_of_pos a hb
 have e:=Int.mul_ediv_add_emod a b
 have hw:IntKind.wrap .i64 (a / b)=a / b:=wrap64 (by omega) (by omega)
 have hD:O3 n a b=some (a / b,0):=by
  unfold O3
  rw [show (b==0)=false from beq_eq_false_iff_ne.2 (by omega),cond_false,show (a== -9223372036854775808)=false from beq_eq_false_iff_ne.2 (by omega),cond_false,hd,hm,decide_eq_false (show ¬a<0 by omega),decide_eq_false (show ¬b<0 by omega)]
  simp only [Option.bind_some,hw]
  cases (a % b !=0)<;>rfl
 unfold Me
 rw [hD,hm]
 simp only [Option.bind_some,show ((0:Int)==0)=true from rfl,cond_true]
 by_cases h:a % b=0
 ·rw [show (a % b !=0)=false from by simp [h],cond_false]
  refine ⟨_,rfl,q0,by omega,?_⟩
  rw [Int.mul_comm];omega
 ·rw [show (a % b !=0)=true from by simp [h],cond_true,wrap64 (by omega) (by omega)]
  refine ⟨_,rfl,by omega,by omega,?_⟩
  rw [Int.add_mul,Int.one_mul,Int.mul_comm];omega
theorem J6 (n:Nat) (D c d:Int) (hD: -2000000≤D∧D≤2000000) (hc:0≤c∧c≤d) (hd:0<d∧d≤200000):∃q,O3 n (IntKind.wrap .i64 (D*c)) d=some (q,0)∧(0≤D→0≤q∧q≤D)∧(D<0→D≤q∧q≤0):=by
 have b1:D*c≤2000000*200000:=by
  have h1:D*c≤2000000*c:=Int.mul_le_mul_of_nonneg_right hD.2 hc.1
  omega
 have b2: -(2000000*200000)≤D*c:=by
  have h1:(-2000000)*c≤D*c:=Int.mul_le_mul_of_nonneg_right hD.1 hc.1
  omega
 rw [wrap64 (by omega) (by omega)]
 have key:(D*c) / d=(D*c).tdiv d-(if (D*c).tmod d≠0∧D*c<0 then 1 else 0):=by
  rw [Int.tdiv_eq_ediv,Int.sign_eq_one_of_pos hd.1]
  by_cases h0:0≤D*c
  ·rw [if_pos (Or.inl h0),if_neg (by omega)];omega
  ·by_cases hv:d ∣ D*c
   ·rw [if_pos (Or.inr hv),if_neg (by rintro ⟨k,-⟩;exact k (Int.tmod_eq_zero_of_dvd hv))];omega
   ·have hne:(D*c).tmod d≠0:=fun h=>hv (Int.dvd_of_tmod_eq_zero h)
    rw [if_neg (by rintro (k|k);exact h0 k;exact hv k),if_pos ⟨hne,by omega⟩];omega
 have hdv:Ky (D*c) d=some ((D*c).tdiv d):=by simp only [Ky,if_neg (show ¬d=0 by omega)]
 have hmv:L4 (D*c) d=some ((D*c).tmod d):=by simp only [L4,if_neg (show ¬d=0 by omega)]
 have t1:(D*c) / d≤2000000*200000:=by
  rcases Int.lt_or_le (D*c) 0 with h|h
  ·have:=Int.ediv_neg_of_neg_of_pos h hd.1;omega
  ·have:=Int.ediv_le_self d h;omega
 have t2: -(2000000*200000)-1≤(D*c) / d:=by
  have: -(2000000*200000)≤(D*c) / d:=Int.le_ediv_of_mul_le hd.1 (by
   have: -(2000000*200000)*d≤-(2000000*200000)*1:=Int.mul_le_mul_of_nonpos_left (by omega) (by omega)
   omega)
  omega
 refine ⟨(D*c) / d,?_,fun h=>⟨Int.ediv_nonneg (Int.mul_nonneg h hc.1) (by omega),Int.ediv_le_of_le_mul hd.1 (Int.mul_le_mul_of_nonneg_left hc.2 h)⟩,fun h=>⟨Int.le_ediv_of_mul_le hd.1 (Int.mul_le_mul_of_nonpos_left (by omega) hc.2),?_⟩⟩
 ·unfold O3
  rw [show (d==0)=false from beq_eq_false_iff_ne.2 (by omega),cond_false,show (D*c== -9223372036854775808)=false from beq_eq_false_iff_ne.2 (by omega),cond_false,hdv,hmv,decide_eq_false (show ¬d<0 by omega)]
  simp only [Option.bind_some]
  by_cases h1:(D*c).tmod d=0
  ·rw [show ((D*c).tmod d !=0)=false from by simp [h1],cond_false,key,if_neg (by rintro ⟨k,-⟩;exact k h1)]
   rw [if_neg (by rintro ⟨k,-⟩;exact k h1)] at key
   rw [wrap64 (by omega) (by omega)];simp
  ·rw [show ((D*c).tmod d !=0)=true from by simp [h1],cond_true]
   by_cases h2:D*c<0
   ·rw [decide_eq_true h2,key,if_pos ⟨h1,h2⟩]
    rw [if_pos ⟨h1,h2⟩] at key
    rw [show (!(true==false))=true from rfl,cond_true]
    rw [wrap64 (z:=(D*c).tdiv d) (by omega) (by omega),wrap64 (by omega) (by omega)]
   ·rw [decide_eq_false h2,key,if_neg (by rintro ⟨-,k⟩;exact h2 k)]
    rw [if_neg (by rintro ⟨-,k⟩;exact h2 k)] at key
    rw [show (!(false==false))=false from rfl,cond_false]
    rw [wrap64 (by omega) (by omega)];simp
 ·rcases Int.lt_or_eq_of_le hc.1 with h'|h'
  ·have:D*c<0:=Int.mul_neg_of_neg_of_pos h h'
   have:=Int.ediv_neg_of_neg_of_pos this hd.1
   omega
  ·rw [← h',Int.mul_zero,Int.zero_ediv];exact Int.le_refl _
theorem Al8 (a b:Int):a*a-b*b=(a-b)*(a+b):=by
 rw [Int.sub_mul,Int.mul_add,Int.mul_add,Int.mul_comm b a];omega
theorem sq_nonneg (a:Int):0≤a*a:=by
 rcases Int.le_total 0 a with h|h
 ·exact Int.mul_nonneg h h
 ·exact Int.mul_nonneg_of_nonpos_of_nonpos h h
theorem Afe {a b:Int} (h0:0≤a) (h:a≤b):a*a≤b*b:=Int.mul_le_mul h h h0 (by omega)
theorem Sq (n:Nat) (x:Int) (hx:0≤x) (hx2:x≤9000000000000000000):∀(k m:Nat) (v w:Int),0≤v→v≤w→w≤3037000499→w-v<2 ^ k→k<m→v*v≤x→x<(w+1)*(w+1)→
  ∃r:Int,Bw (fun y:Int×Int=>Mp n x 0 y.1 y.2) m (v,w)=some r∧0≤r∧r≤3037000499∧r*r≤x∧x<(r+1)*(r+1)
 |k,m,v,w,h0,hvw,hw,hk,hm,h1,h2=>by
  obtain ⟨q,rfl⟩:∃q,m=q+1:=⟨m-1,by omega⟩
  rcases Int.lt_or_eq_of_le hvw with hlt|rfl
  ·match k,hk,hm with
   |0,hk,hm=>simp at hk;omega
   |k+1,hk,hm=>
    have hmid:IntKind.wrap .i64 (v+(IntKind.wrap .i64 (Int.tdiv (IntKind.wrap .i64 ((IntKind.wrap .i64 (w-v))+1)) 2)))=v+(w-v+1) / 2:=by
     rw [wrap64 (z:=w-v) (by omega) (by omega),wrap64 (z:=w-v+1) (by omega) (by omega),Int.tdiv_eq_ediv_of_nonneg (by omega),wrap64 (z:=(w-v+1) / 2) (by omega) (by omega),wrap64 (by omega) (by omega)]
    have hpow:(2:Int) ^ (k+1)=2*2 ^ k:=by rw [Int.pow_succ,Int.mul_comm]
    rw [hpow] at hk
    generalize hM:v+(w-v+1) / 2=M at hmid
    have M0:v<M:=by omega
    have M1:M≤w:=by omega
    have sq:M*M≤3037000499*3037000499:=Afe (by omega) (by omega)
    have sq0:=sq_nonneg M
    simp only [Bw]
    unfold Mp
    rw [decide_eq_true hlt,cond_true,hmid,wrap64 (z:=M*M) (by omega) (by omega)]
    by_cases hc:M*M≤x
    ·rw [decide_eq_true hc,cond_true]
     exact Sq n x hx hx2 k q M w (by omega) M1 hw (by omega) (by omega) hc h2
    ·rw [decide_eq_false hc,cond_false,wrap64 (z:=M-1) (by omega) (by omega)]
     exact Sq n x hx hx2 k q v (M-1) h0 (by omega) (by omega) (by omega) (by omega) h1 (by rw [Int.sub_add_cancel];omega)
  ·refine ⟨v,?_,h0,hw,h1,h2⟩
   simp only [Bw]
   unfold Mp
   rw [decide_eq_false (Int.lt_irrefl _)];rfl
theorem Aa3 (n:Nat) (hn:64<n) (x:Int) (hx:0≤x) (hx2:x≤9000000000000000000):∃r:Int,dU n x=some r∧0≤r∧r≤3037000499∧r*r≤x∧x<(r+1)*(r+1):=by
 unfold dU
 by_cases h:x≤0
 ·rw [decide_eq_true h,cond_true]
  have:x=0:=by omega
  subst this
  exact ⟨0,rfl,by decide,by decide,by decide,by decide⟩
 ·rw [decide_eq_false h,cond_false]
  exact Sq n x hx hx2 32 n 0 3037000499 (by decide) (by decide) (by decide) (by decide) (by omega) (by simpa using hx) (by omega)
theorem Q9 (n:Nat) (hn:64<n) (p q:TP) (hp:T9 p) (hq:T9 q):∃f c,Mf n p q=some (f,c)∧0≤f∧f≤c∧c≤f+1∧f≤3000000∧(c=0→p=q):=by
 obtain ⟨p1,p2,p3,p4⟩:=hp
 obtain ⟨q1,q2,q3,q4⟩:=hq
 generalize hdx:p.X-q.X=dx
 generalize hdy:p.Y-q.Y=dy
 have b:∀d:Int,-2000000≤d→d≤2000000→d*d≤4000000000000:=fun d h1 h2=>by
  have h:=Al8 2000000 d
  have:=Int.mul_nonneg (show 0≤2000000-d by omega) (show 0≤2000000+d by omega)
  omega
 have bx:=b dx (by omega) (by omega)
 have by':=b dy (by omega) (by omega)
 have nx:=sq_nonneg dx
 have ny:=sq_nonneg dy
 obtain ⟨r,hr,r0,r1,r2,r3⟩:=Aa3 n hn (dx*dx+dy*dy) (by omega) (by omega)
 have hs:Wa n p q=some (dx*dx+dy*dy):=by
  unfold Wa bP oP
  simp only [Option.bind_some]
  rw [hdx,hdy,wrap64 (z:=dx) (by omega) (by omega),wrap64 (z:=dy) (by omega) (by omega),wrap64 (z:=dx*dx) (by omega) (by omega),wrap64 (z:=dy*dy) (by omega) (by omega),wrap64 (by omega) (by omega)]
 have r4:r≤3000000:=by
  rcases Int.lt_or_le 3000000 r with h|h
  ·have:=Afe (a:=3000000) (b:=r) (by decide) (by omega);omega
  ·exact h
 unfold Mf
 rw [hs,Option.bind_some,hr,Option.bind_some,wrap64 (z:=r*r) (by have:=sq_nonneg r;omega) (by omega),wrap64 (z:=r+1) (by omega) (by omega)]
 by_cases h:r*r<dx*dx+dy*dy
 ·rw [decide_eq_true h,cond_true]
  exact ⟨r,r+1,rfl,r0,by omega,by omega,r4,fun h=>by omega⟩
 ·rw [decide_eq_false h,cond_false]
  refine ⟨r,r,rfl,r0,Int.le_refl _,by omega,r4,fun h0=> ?_⟩
  subst h0
  simp at h
  have z1:dx=0:=by
   have:dx*dx=0:=by omega
   rcases Int.mul_eq_zero.1 this with h|h<;>exact h
  have z2:dy=0:=by
   have:dy*dy=0:=by omega
   rcases Int.mul_eq_zero.1 this with h|h<;>exact h
  cases p;cases q
  simp only [TP.mk.injEq] at*
  omega
end Go.Proofs.YtkdodbfnocdkdaaGreatDoor
set_option linter.unusedVariables false
set_option linter.unusedSimpArgs false
namespace Go.Proofs.YtkdodbfnocdkdaaGreatDoor
theorem Ps (n:Nat) (a b:TP) (ha:T9 a) (hb:T9 b) (c d:Int) (hc:0≤c∧c≤d) (hd:0<d∧d≤200000):∃r:TP,V9 n a b c d=some (r,0)∧T9 r:=by
 obtain ⟨a1,a2,a3,a4⟩:=ha
 obtain ⟨b1,b2,b3,b4⟩:=hb
 have ea:Ty n a=some 0:=by
  rcases Jt n a with ⟨e,-⟩|⟨-,h⟩
  ·exact e
  ·exact absurd ⟨a1,a2,a3,a4⟩ h
 have eb:Ty n b=some 0:=by
  rcases Jt n b with ⟨e,-⟩|⟨-,h⟩
  ·exact e
  ·exact absurd ⟨b1,b2,b3,b4⟩ h
 obtain ⟨q1,e1,u1,u2⟩:=J6 n (b.X-a.X) c d (by omega) hc hd
 obtain ⟨q2,e2,w1,w2⟩:=J6 n (b.Y-a.Y) c d (by omega) hc hd
 have x1: -1000000≤a.X+q1∧a.X+q1≤1000000:=by
  rcases Int.lt_or_le (b.X-a.X) 0 with h|h
  ·have:=u2 h;omega
  ·have:=u1 h;omega
 have x2: -1000000≤a.Y+q2∧a.Y+q2≤1000000:=by
  rcases Int.lt_or_le (b.Y-a.Y) 0 with h|h
  ·have:=w2 h;omega
  ·have:=w1 h;omega
 unfold V9
 rw [decide_eq_false (show ¬d≤0 by omega),decide_eq_false (show ¬d>200000 by omega),decide_eq_false (show ¬c<0 by omega),decide_eq_false (show ¬c>d by omega),ea,eb,wrap64 (z:=b.X-a.X) (by omega) (by omega),wrap64 (z:=b.Y-a.Y) (by omega) (by omega)]
 simp only [cond_false,Option.bind_some,show ((0:Int) !=0)=false from rfl]
 rw [e1,e2]
 simp only [Option.bind_some]
 rw [wrap64 (z:=a.X+q1) (by omega) (by omega),wrap64 (z:=a.Y+q2) (by omega) (by omega)]
 exact ⟨_,rfl,x1.1,x1.2,x2.1,x2.2⟩
theorem Aqf (n:Nat) (hn:64<n) (l:List Ab) (h:Cg l) (t:Int) (x0 x1:Ab) (h0:l[0]?=some x0) (h1:l[l.length-1]?=some x1) (ht0:x0.Ac≤t) (ht1:t≤x1.Ac):∃r:Ab,P1 n l t=some r∧r.Ac=t∧T9 ⟨r.Ak,r.Aj⟩:=by
 have hp:=h.pos
 have b0:=h.nodes x0 (List.mem_of_getElem? h0)
 have b1:=h.nodes x1 (List.mem_of_getElem? h1)
 obtain ⟨i,hi,k1,k2,b,hb,hbt⟩:=On n hn l h t (by have:=b0.1;have:=b1.2.1;omega)
 unfold P1
 rw [hb,Option.bind_some]
 cases b with
 |true=>
  obtain ⟨x,hx,hxt⟩:=hbt.1 rfl
  simp only [cond_true]
  rw [Bl hx];exact ⟨_,rfl,hxt,(h.nodes x (List.mem_of_getElem? hx)).2.2.1⟩
 |false=>
  simp only [cond_false]
  have hil:i<l.length:=by
   rcases Nat.lt_or_ge i l.length with h'|h'
   ·exact h'
   ·have:=k1 (l.length-1) x1 (by omega) h1;omega
  have hi0:0<i:=by
   rcases Nat.eq_zero_or_pos i with rfl|h'
   ·have:=k2 0 x0 (Nat.le_refl _) h0
    have:=hbt.2 ⟨x0,h0,by omega⟩
    cases this
   ·exact h'
  have ha:l[i-1]?=some l[i-1]:=List.getElem?_eq_getElem (by omega)
  have hb':l[i]?=some l[i]:=List.getElem?_eq_getElem hil
  have na:=h.nodes _ (List.mem_of_getElem? ha)
  have nb:=h.nodes _ (List.mem_of_getElem? hb')
  have ta:=k1 (i-1) _ (by omega) ha
  have tb:=k2 i _ (Nat.le_refl _) hb'
  have hw:IntKind.wrap .i64 ((i:Int)-1)=((i-1:Nat):Int):=by have:=h.len;rw [wrap64 (by omega) (by omega)];omega
  rw [hw,Bl ha,Bl hb']
  simp only [Option.bind_some]
  have:=na.1
  have:=na.2.1
  have:=nb.1
  have:=nb.2.1
  rw [wrap64 (z:=t-l[i-1].Ac) (by omega) (by omega),wrap64 (z:=l[i].Ac-l[i-1].Ac) (by omega) (by omega)]
  obtain ⟨q1,e1,hq⟩:=Ps n (⟨l[i-1].Ak,l[i-1].Aj⟩:TP) (⟨l[i].Ak,l[i].Aj⟩:TP) na.2.2.1 nb.2.2.1 (t-l[i-1].Ac) (l[i].Ac-l[i-1].Ac) (by omega) (by omega)
  rw [e1,Option.bind_some]
  obtain ⟨q2,e2,-⟩:=Nc n (IntKind.wrap .i64 ((IntKind.wrap .i64 (l[i].Af-l[i-1].Af))*(t-l[i-1].Ac))) (l[i].Ac-l[i-1].Ac)
  rw [e2,Option.bind_some]
  obtain ⟨q3,e3⟩:=Zz n (IntKind.wrap .i64 ((IntKind.wrap .i64 (l[i].Aw-l[i-1].Aw))*(t-l[i-1].Ac))) (l[i].Ac-l[i-1].Ac)
  rw [e3,Option.bind_some]
  obtain ⟨q4,e4⟩:=Zz n (IntKind.wrap .i64 ((IntKind.wrap .i64 (l[i].Bi-l[i-1].Bi))*(t-l[i-1].Ac))) (l[i].Ac-l[i-1].Ac)
  rw [e4,Option.bind_some]
  exact ⟨_,rfl,rfl,hq⟩
theorem Af6 (n:Nat) (hn:64<n) (l:List Ab) (h:Cg l) (hc:Kg n l=some 0) (t:Int) (now:Ab) (e:S0 n l t=some (now,0)):now.Ac=t∧T9 ⟨now.Ak,now.Aj⟩∧0≤t∧t≤200000∧∀x1,l[l.length-1]?=some x1→t≤x1.Ac:=by
 have hp:=h.pos
 have h0:l[0]?=some l[0]:=List.getElem?_eq_getElem hp
 have h1:l[l.length-1]?=some l[l.length-1]:=List.getElem?_eq_getElem (by omega)
 have b0:=h.nodes _ (List.mem_of_getElem? h0)
 have b1:=h.nodes _ (List.mem_of_getElem? h1)
 rcases Jr n hn l h hc t _ _ h0 h1 with ⟨t0,t1,r,e1,e2⟩|⟨-,e2⟩
 ·obtain ⟨r',e3,k1,k2⟩:=Aqf n hn l h t _ _ h0 h1 t0 t1
  rw [e2] at e
  rw [e1] at e3
  cases e;cases e3
  exact ⟨k1,k2,by have:=b0.1;omega,by have:=b1.2.1;omega,fun x1 hx=>by rw [h1] at hx;cases hx;exact t1⟩
 ·rw [e2] at e;cases e
theorem I9 {l:List Ab} {t:Int} {x:Ab}:x∈Fy l t↔x∈l∧x.Ac>t:=by simp [Fy]
theorem Ack (l:List Ab) (t:Int):(Ri l t).length≤l.length:=List.length_filter_le _ _
theorem Zq (l:List Ab) (t:Int):(Fy l t).length≤l.length:=List.length_filter_le _ _
theorem Ahk {L:List (List Ab)} (h:L.length≤64) (h2:L.flatten.length≤1000):Vb 48 L=some L.flatten:=by
 unfold Vb
 rw [if_pos ⟨by omega,by omega,by omega⟩]
end Go.Proofs.YtkdodbfnocdkdaaGreatDoor
set_option linter.unusedVariables false
set_option linter.unusedSimpArgs false
namespace Go.Proofs.YtkdodbfnocdkdaaGreatDoor
theorem Atd (x y c d:Int):(x+y*c)*d-(x+y*d)*c=x*(d-c):=by
 rw [Int.add_mul,Int.add_mul,Int.mul_sub,Int.mul_assoc,Int.mul_assoc,Int.mul_comm c d];omega
end Go.Proofs.YtkdodbfnocdkdaaGreatDoor
set_option linter.unusedVariables false
set_option linter.unusedSimpArgs false
namespace Go.Proofs.YtkdodbfnocdkdaaGreatDoor
theorem fC (n:Nat) (hn:64<n) (l:List Ab) (h:Cg l):Kg n l=some 0:=by
 have hp:=h.pos
 have hl:=h.len
 unfold Kg
 rw [decide_eq_false (show ¬(l.length:Int)>64 by omega),cond_false,show ((l.length:Int)==0)=false from beq_eq_false_iff_ne.2 (by omega),cond_false]
 refine J7 (S:=fun y:Int=>K6 n l 0 (l.length:Int) y) (fun x=>∃i:Nat,i≤l.length∧x=(i:Int)) 0 (fun x=>l.length-x.toNat) ?_ n 0 ⟨0,Nat.zero_le _,rfl⟩ (by simp;omega)
 rintro _ ⟨i,hi,rfl⟩
 rcases Nat.lt_or_ge i l.length with hlt|hge
 ·left
  have hx:l[i]?=some l[i]:=List.getElem?_eq_getElem hlt
  obtain ⟨b1,b2,b3,b4,b5,b6,b7,b8,b9⟩:=h.nodes _ (List.getElem_mem hlt)
  have ep:Ty n (⟨l[i].Ak,l[i].Aj⟩:TP)=some 0:=by
   rcases Jt n ⟨l[i].Ak,l[i].Aj⟩ with ⟨e,-⟩|⟨-,e⟩
   ·exact e
   ·exact absurd b3 e
  refine ⟨((i+1:Nat):Int),?_,⟨i+1,hlt,rfl⟩,by simp;omega⟩
  show K6 n l 0 (l.length:Int) (i:Int)=_
  unfold K6
  rw [decide_eq_true (show (i:Int)<(l.length:Int) by omega),cond_true,Bl hx,Option.bind_some,wS (by omega),decide_eq_false (show ¬l[i].Ac<0 by omega),cond_false,decide_eq_false (show ¬l[i].Ac>200000 by omega),cond_false,ep,Option.bind_some,show ((0:Int) !=0)=false from rfl,cond_false,decide_eq_false (show ¬l[i].Af<0 by omega),decide_eq_false (show ¬l[i].Af>60000 by omega),decide_eq_false (show ¬l[i].Aw<0 by omega),decide_eq_false (show ¬l[i].Aw>1000000 by omega),decide_eq_false (show ¬l[i].Bi<0 by omega),decide_eq_false (show ¬l[i].Bi>60000 by omega)]
  simp only [cond_false]
  rcases i with _|j
  ·rfl
  ·have hj:j<l.length:=by omega
   have hy:l[j]?=some l[j]:=List.getElem?_eq_getElem hj
   have hwj:IntKind.wrap .i64 (((j+1:Nat):Int)-1)=(j:Int):=by rw [wrap64 (by omega) (by omega)];omega
   have hinc:=h.inc j _ _ hy hx
   rw [decide_eq_true (show ((j+1:Nat):Int)>0 by omega),cond_true,hwj,Bl hy,Option.bind_some,decide_eq_false (show ¬l[j+1].Ac≤l[j].Ac by omega),cond_false]
 ·right
  have:i=l.length:=by omega
  subst this
  show K6 n l 0 (l.length:Int) (l.length:Int)=_
  unfold K6
  rw [decide_eq_false (Int.lt_irrefl _)];rfl
end Go.Proofs.YtkdodbfnocdkdaaGreatDoor
set_option linter.unusedVariables false
set_option linter.unusedSimpArgs false
namespace Go.Proofs.YtkdodbfnocdkdaaGreatDoor
theorem Hr (n:Nat) (X d:Int) (hX: -1000000000000≤X∧X≤1000000000000) (hd:0<d):O3 n X d=some (X / d,0):=by
 have key:X / d=X.tdiv d-(if X.tmod d≠0∧X<0 then 1 else 0):=by
  rw [Int.tdiv_eq_ediv,Int.sign_eq_one_of_pos hd]
  by_cases h0:0≤X
  ·rw [if_pos (Or.inl h0),if_neg (by omega)];omega
  ·by_cases hv:d ∣ X
   ·rw [if_pos (Or.inr hv),if_neg (by rintro ⟨k,-⟩;exact k (Int.tmod_eq_zero_of_dvd hv))];omega
   ·have hne:X.tmod d≠0:=fun h=>hv (Int.dvd_of_tmod_eq_zero h)
    rw [if_neg (by rintro (k|k);exact h0 k;exact hv k),if_pos ⟨hne,by omega⟩];omega
 have hdv:Ky X d=some (X.tdiv d):=by simp only [Ky,if_neg (show ¬d=0 by omega)]
 have hmv:L4 X d=some (X.tmod d):=by simp only [L4,if_neg (show ¬d=0 by omega)]
 have t1:X / d≤1000000000000:=by
  rcases Int.lt_or_le X 0 with h|h
  ·have:=Int.ediv_neg_of_neg_of_pos h hd;omega
  ·have:=Int.ediv_le_self d h;omega
 have t2: -1000000000000≤X / d:=Int.le_ediv_of_mul_le hd (by
   have: -1000000000000*d≤-1000000000000*1:=Int.mul_le_mul_of_nonpos_left (by omega) (by omega)
   omega)
 unfold O3
 rw [show (d==0)=false from beq_eq_false_iff_ne.2 (by omega),cond_false,show (X== -9223372036854775808)=false from beq_eq_false_iff_ne.2 (by omega),cond_false,hdv,hmv,decide_eq_false (show ¬d<0 by omega)]
 simp only [Option.bind_some]
 by_cases h1:X.tmod d=0
 ·rw [show (X.tmod d !=0)=false from by simp [h1],cond_false,key,if_neg (by rintro ⟨k,-⟩;exact k h1)]
  rw [if_neg (by rintro ⟨k,-⟩;exact k h1)] at key
  rw [wrap64 (by omega) (by omega)];simp
 ·rw [show (X.tmod d !=0)=true from by simp [h1],cond_true]
  by_cases h2:X<0
  ·rw [decide_eq_true h2,key,if_pos ⟨h1,h2⟩]
   rw [if_pos ⟨h1,h2⟩] at key
   rw [show (!(true==false))=true from rfl,cond_true]
   rw [wrap64 (z:=X.tdiv d) (by omega) (by omega),wrap64 (by omega) (by omega)]
  ·rw [decide_eq_false h2,key,if_neg (by rintro ⟨-,k⟩;exact h2 k)]
   rw [if_neg (by rintro ⟨-,k⟩;exact h2 k)] at key
   rw [show (!(false==false))=false from rfl,cond_false]
   rw [wrap64 (by omega) (by omega)];simp
theorem prod_bound {D c M:Int} (h: -M≤D∧D≤M) (hc:0≤c∧c≤200000) (hM:0≤M∧M≤2000000): -1000000000000≤D*c∧D*c≤1000000000000:=by
 have h1:D*c≤M*c:=Int.mul_le_mul_of_nonneg_right h.2 hc.1
 have h2: -M*c≤D*c:=Int.mul_le_mul_of_nonneg_right h.1 hc.1
 have h3:M*c≤M*200000:=Int.mul_le_mul_of_nonneg_left hc.2 hM.1
 rw [Int.neg_mul] at h2
 omega
theorem Yr (n:Nat) (D c d:Int) (hD: -2000000≤D∧D≤2000000) (hc:0≤c∧c≤d) (hd:0<d∧d≤200000):∃q,Me n (IntKind.wrap .i64 (D*c)) d=some (q,0)∧(0≤D→0≤q∧q≤D)∧(D<0→D≤q∧q≤0):=by
 have hb:=prod_bound (M:=2000000) hD ⟨hc.1,by omega⟩ (by decide)
 obtain ⟨q,eq,u1,u2⟩:=J6 n D c d hD hc hd
 rw [wrap64 (by omega) (by omega)] at eq ⊢
 have ex:=Hr n (D*c) d hb hd.1
 rw [ex] at eq
 simp only [Option.some.injEq,Prod.mk.injEq,and_true] at eq
 have hmv:L4 (D*c) d=some ((D*c).tmod d):=by simp only [L4,if_neg (show ¬d=0 by omega)]
 unfold Me
 rw [ex,Option.bind_some]
 simp only [show ((0:Int)==0)=true from rfl,cond_true]
 rw [hmv,Option.bind_some]
 by_cases h1:(D*c).tmod d=0
 ·rw [show ((D*c).tmod d !=0)=false from by simp [h1],cond_false,eq]
  exact ⟨q,rfl,u1,u2⟩
 ·rw [show ((D*c).tmod d !=0)=true from by simp [h1],cond_true,eq]
  have hne:∀k:Int,D*c≠k*d:=fun k h=>h1 (by rw [h];exact Int.mul_tmod_left k d)
  have e:=Int.mul_ediv_add_emod (D*c) d
  have r0:0≤(D*c) % d:=Int.emod_nonneg _ (by omega)
  have r1:(D*c) % d<d:=Int.emod_lt_of_pos _ hd.1
  have hq0: -2000000≤q∧q≤2000000:=by
   rcases Int.lt_or_le D 0 with h|h
   ·have:=u2 h;omega
   ·have:=u1 h;omega
  rw [wrap64 (by omega) (by omega)]
  refine ⟨q+1,rfl,fun h=> ?_,fun h=> ?_⟩
  ·have:=u1 h
   refine ⟨by omega,?_⟩
   have hlt:(D*c) / d<D:=Int.ediv_lt_of_lt_mul hd.1 (by
    have k1:D*c≤D*d:=Int.mul_le_mul_of_nonneg_left hc.2 h
    have k2:=hne D
    omega)
   omega
  ·have:=u2 h
   refine ⟨by omega,?_⟩
   have hlt:(D*c) / d<0:=by
    rcases Int.lt_or_eq_of_le hc.1 with k|k
    ·exact Int.ediv_neg_of_neg_of_pos (Int.mul_neg_of_neg_of_pos h k) hd.1
    ·exfalso;exact hne 0 (by rw [← k];simp)
   omega
set_option maxHeartbeats 2000000 in
theorem vW (n:Nat) (hn:64<n) (l:List Ab) (h:Cg l) (hc:Kg n l=some 0) (u:Int) (x0 x1:Ab) (h0:l[0]?=some x0) (h1:l[l.length-1]?=some x1) (ht0:x0.Ac≤u) (ht1:u≤x1.Ac):
  ∃r:Ab,S0 n l u=some (r,0)∧Hl r∧r.Ac=u∧((∃i:Nat,l[i]?=some r)∨∃(i:Nat) (a b:Ab),l[i]?=some a∧l[i+1]?=some b∧a.Ac<u∧u<b.Ac∧r.Af=a.Af+((b.Af-a.Af)*(u-a.Ac)) / (b.Ac-a.Ac)):=by
 have hp:=h.pos
 have b0:=h.nodes x0 (List.mem_of_getElem? h0)
 have b1:=h.nodes x1 (List.mem_of_getElem? h1)
 have fin:∀r:Ab,P1 n l u=some r→S0 n l u=some (r,0):=fun r hr=>by
  rcases Jr n hn l h hc u x0 x1 h0 h1 with ⟨-,-,r',e1,e2⟩|⟨k,-⟩
  ·rw [hr] at e1;cases e1;exact e2
  ·omega
 obtain ⟨i,hi,k1,k2,b,hb,hbt⟩:=On n hn l h u (by have:=b0.1;have:=b1.2.1;omega)
 cases b with
 |true=>
  obtain ⟨x,hx,hxt⟩:=hbt.1 rfl
  refine ⟨x,fin x ?_,h.nodes x (List.mem_of_getElem? hx),hxt,.inl ⟨i,hx⟩⟩
  unfold P1
  rw [hb,Option.bind_some]
  simp only [cond_true]
  rw [Bl hx];rfl
 |false=>
  have hil:i<l.length:=by
   rcases Nat.lt_or_ge i l.length with h'|h'
   ·exact h'
   ·have:=k1 (l.length-1) x1 (by omega) h1;omega
  have hi0:0<i:=by
   rcases Nat.eq_zero_or_pos i with rfl|h'
   ·have:=k2 0 x0 (Nat.le_refl _) h0
    have:=hbt.2 ⟨x0,h0,by omega⟩
    cases this
   ·exact h'
  have ha:l[i-1]?=some l[i-1]:=List.getElem?_eq_getElem (by omega)
  have hb':l[i]?=some l[i]:=List.getElem?_eq_getElem hil
  have na:=h.nodes _ (List.mem_of_getElem? ha)
  have nb:=h.nodes _ (List.mem_of_getElem? hb')
  have ta:=k1 (i-1) _ (by omega) ha
  have tb:u<l[i].Ac:=by
   have:=k2 i _ (Nat.le_refl _) hb'
   rcases Int.lt_or_eq_of_le this with k|k
   ·exact k
   ·have:=hbt.2 ⟨_,hb',k.symm⟩;cases this
  have hw:IntKind.wrap .i64 ((i:Int)-1)=((i-1:Nat):Int):=by have:=h.len;rw [wrap64 (by omega) (by omega)];omega
  obtain ⟨a1,a2,a3,a4,a5,a6,a7,a8,a9⟩:=na
  obtain ⟨c1,c2,c3,c4,c5,c6,c7,c8,c9⟩:=nb
  obtain ⟨q1,e1,hq⟩:=Ps n (⟨l[i-1].Ak,l[i-1].Aj⟩:TP) (⟨l[i].Ak,l[i].Aj⟩:TP) a3 c3 (u-l[i-1].Ac) (l[i].Ac-l[i-1].Ac) (by omega) (by omega)
  have pb:=prod_bound (D:=l[i].Af-l[i-1].Af) (c:=u-l[i-1].Ac) (M:=2000000) (by omega) (by omega) (by decide)
  have e2:=Hr n ((l[i].Af-l[i-1].Af)*(u-l[i-1].Ac)) (l[i].Ac-l[i-1].Ac) pb (by omega)
  obtain ⟨qh,eh,v1,v2⟩:=J6 n (l[i].Af-l[i-1].Af) (u-l[i-1].Ac) (l[i].Ac-l[i-1].Ac) (by omega) (by omega) (by omega)
  rw [wrap64 (by omega) (by omega),e2] at eh
  simp only [Option.some.injEq,Prod.mk.injEq,and_true] at eh
  obtain ⟨q3,e3,y1,y2⟩:=Yr n (l[i].Aw-l[i-1].Aw) (u-l[i-1].Ac) (l[i].Ac-l[i-1].Ac) (by omega) (by omega) (by omega)
  obtain ⟨q4,e4,z1,z2⟩:=Yr n (l[i].Bi-l[i-1].Bi) (u-l[i-1].Ac) (l[i].Ac-l[i-1].Ac) (by omega) (by omega) (by omega)
  have hH:0≤l[i-1].Af+qh∧l[i-1].Af+qh≤60000:=by
   rcases Int.lt_or_le (l[i].Af-l[i-1].Af) 0 with k|k
   ·have:=v2 k;omega
   ·have:=v1 k;omega
  have hR:0≤l[i-1].Aw+q3∧l[i-1].Aw+q3≤1000000:=by
   rcases Int.lt_or_le (l[i].Aw-l[i-1].Aw) 0 with k|k
   ·have:=y2 k;omega
   ·have:=y1 k;omega
  have hB:0≤l[i-1].Bi+q4∧l[i-1].Bi+q4≤60000:=by
   rcases Int.lt_or_le (l[i].Bi-l[i-1].Bi) 0 with k|k
   ·have:=z2 k;omega
   ·have:=z1 k;omega
  refine ⟨(⟨u,q1.X,q1.Y,l[i-1].Af+qh,l[i-1].Aw+q3,l[i-1].Bi+q4⟩:Ab),fin _ ?_,⟨by show 0≤u;omega,by show u≤200000;omega,hq,hH.1,hH.2,hR.1,hR.2,hB.1,hB.2⟩,rfl,.inr ⟨i-1,l[i-1],l[i],ha,by rw [show i-1+1=i by omega];exact hb',ta,tb,by show l[i-1].Af+qh=_;rw [eh]⟩⟩
  unfold P1
  rw [hb,Option.bind_some]
  simp only [cond_false]
  rw [hw,Bl ha,Bl hb']
  simp only [Option.bind_some]
  rw [wrap64 (z:=u-l[i-1].Ac) (by omega) (by omega),wrap64 (z:=l[i].Ac-l[i-1].Ac) (by omega) (by omega),e1,Option.bind_some,wrap64 (z:=l[i].Af-l[i-1].Af) (by omega) (by omega),wrap64 (z:=(l[i].Af-l[i-1].Af)*(u-l[i-1].Ac)) (by omega) (by omega),e2,Option.bind_some,wrap64 (z:=l[i].Aw-l[i-1].Aw) (by omega) (by omega),e3,Option.bind_some,wrap64 (z:=l[i].Bi-l[i-1].Bi) (by omega) (by omega),e4,Option.bind_some,eh,wrap64 (z:=l[i-1].Af+qh) (by omega) (by omega),wrap64 (z:=l[i-1].Aw+q3) (by omega) (by omega),wrap64 (z:=l[i-1].Bi+q4) (by omega) (by omega)]
end Go.Proofs.YtkdodbfnocdkdaaGreatDoor
set_option linter.unusedVariables false
set_option linter.unusedSimpArgs false
namespace Go.Proofs.YtkdodbfnocdkdaaGreatDoor
def hgt (h0 to t0 N u:Int):Int:=if t0+N≤u then to else h0+((to-h0)*(u-t0)) / N
def hN (h0 to t0 N:Int) (x:Ab):Ab:=⟨x.Ac,x.Ak,x.Aj,hgt h0 to t0 N x.Ac,x.Aw,x.Bi⟩
theorem sO {D c d:Int} (hc:0≤c∧c≤d) (hd:0<d):(0≤D→0≤(D*c) / d∧(D*c) / d≤D)∧(D<0→D≤(D*c) / d∧(D*c) / d≤0):=by
 refine ⟨fun h=>⟨Int.ediv_nonneg (Int.mul_nonneg h hc.1) (by omega),Int.ediv_le_of_le_mul hd (Int.mul_le_mul_of_nonneg_left hc.2 h)⟩,fun h=>⟨Int.le_ediv_of_mul_le hd (Int.mul_le_mul_of_nonpos_left (by omega) hc.2),?_⟩⟩
 rcases Int.lt_or_eq_of_le hc.1 with h'|h'
 ·have:D*c<0:=Int.mul_neg_of_neg_of_pos h h'
  have:=Int.ediv_neg_of_neg_of_pos this hd
  omega
 ·rw [← h',Int.mul_zero,Int.zero_ediv];exact Int.le_refl _
theorem Tb (n:Nat) (T:Fs) (N e:Int) (M:Nat) (hM:M≤1000) (he:e=T.Ap+N) (hN0:0≤N∧N≤100000) (hh:0≤T.Au∧T.Au≤60000) (hv:0≤T.Am∧T.Am≤60000) (ht:0≤T.Ap∧T.Ap≤200000):∀(R D:List Ab) (m:Nat),(∀x∈R,T.Ap<x.Ac∧x.Ac≤200000)→D.length+R.length=M→R.length<m→
  Bw (fun y:Int×List Ab=>Jz n (0) N (M:Int) T.Av T.Aq T.Am T.Ay T.before T.later T.Ap T.A6 T.A5 T.Au T.Bj T.B9 T.B2 T.B1 T.Bc T.Bp T.Bb T.Bu T.Bt T.Dj T.Dp T.whole e y.1 y.2) m ((D.length:Int),D++R)=some (D++R.map (hN T.Au T.Am T.Ap N),0)
 |[],D,m,hR,hl,hm=>by
  obtain ⟨q,rfl⟩:∃q,m=q+1:=⟨m-1,by omega⟩
  simp only [Bw]
  unfold Jz
  rw [decide_eq_false (show ¬(D.length:Int)<(M:Int) by simp at hl;omega),cond_false]
  rfl
 |x::R,D,m,hR,hl,hm=>by
  obtain ⟨q,rfl⟩:∃q,m=q+1:=⟨m-1,by omega⟩
  simp only [List.length_cons] at hl hm
  have hx:=hR x (List.mem_cons_self ..)
  have gx:(D++x::R)[D.length]?=some x:=by simp
  have hset:∀y:Ab,(D++x::R).set D.length y=(D++[y])++R:=fun y=>by
   rw [List.set_append_right _ _ (Nat.le_refl _)];simp
  have e1:Jz n (0) N (M:Int) T.Av T.Aq T.Am T.Ay T.before T.later T.Ap T.A6 T.A5 T.Au T.Bj T.B9 T.B2 T.B1 T.Bc T.Bp T.Bb T.Bu T.Bt T.Dj T.Dp T.whole e (D.length:Int) (D++x::R)=some (.inl (((D.length+1:Nat):Int),(D++[hN T.Au T.Am T.Ap N x])++R)):=by
   unfold Jz
   rw [decide_eq_true (show (D.length:Int)<(M:Int) by omega),cond_true,Bl gx,Option.bind_some,wS (by omega),Int.toNat_natCast]
   by_cases hc:x.Ac≥e
   ·rw [decide_eq_true hc,cond_true,hset]
    unfold hN hgt
    rw [if_pos (by omega)]
   ·rw [decide_eq_false hc,cond_false]
    have pb:=prod_bound (D:=T.Am-T.Au) (c:=x.Ac-T.Ap) (M:=2000000) (by omega) (by omega) (by decide)
    have hd:=Hr n ((T.Am-T.Au)*(x.Ac-T.Ap)) N pb (by omega)
    have md:=sO (D:=T.Am-T.Au) (c:=x.Ac-T.Ap) (d:=N) (by omega) (by omega)
    rw [wrap64 (z:=T.Am-T.Au) (by omega) (by omega),wrap64 (z:=x.Ac-T.Ap) (by omega) (by omega),wrap64 (z:=(T.Am-T.Au)*(x.Ac-T.Ap)) (by omega) (by omega),hd,Option.bind_some]
    have hb: -60000≤((T.Am-T.Au)*(x.Ac-T.Ap)) / N∧((T.Am-T.Au)*(x.Ac-T.Ap)) / N≤60000:=by
     rcases Int.lt_or_le (T.Am-T.Au) 0 with h|h
     ·have:=md.2 h;omega
     ·have:=md.1 h;omega
    rw [wrap64 (by omega) (by omega),hset]
    unfold hN hgt
    rw [if_neg (by omega)]
  simp only [Bw,e1]
  have ih:=Tb n T N e M hM he hN0 hh hv ht R (D++[hN T.Au T.Am T.Ap N x]) q (fun z hz=>hR z (List.mem_cons_of_mem _ hz)) (by simp;omega) (by omega)
  rw [show ((D++[hN T.Au T.Am T.Ap N x]).length:Int)=((D.length+1:Nat):Int) by simp] at ih
  rw [ih]
  simp
end Go.Proofs.YtkdodbfnocdkdaaGreatDoor
set_option linter.unusedVariables false
set_option linter.unusedSimpArgs false
namespace Go.Proofs.YtkdodbfnocdkdaaGreatDoor
theorem Ael (n:Nat) (b:Int) (hb:0<b):Me n 0 b=some (0,0):=by
 have hd:=Hr n 0 b (by decide) hb
 have hm:L4 0 b=some 0:=by simp only [L4,if_neg (show ¬b=0 by omega)];simp
 unfold Me
 rw [hd,Option.bind_some]
 simp only [show ((0:Int)==0)=true from rfl,cond_true]
 rw [hm,Option.bind_some]
 simp
structure N5 (k:Dg) (h to N:Int):Prop where
 hh:0≤h∧h≤60000
 hto:0≤to∧to≤60000
 hN:0≤N∧N≤60001
 up:to-h≤k.C5*N∨to<h
 down:h-to≤k.Cb*N∨h≤to
 same:h=to→N=0
 Auh:1≤k.C5∧k.C5≤200∧1≤k.Cb∧k.Cb≤200
theorem dQ (n:Nat) (hn:16<n) (k:Dg) (h to:Int):∃r:Int×Int,aM n k h to=some r∧(r.2=0→N5 k h to r.1):=by
 unfold aM
 obtain ⟨z,hz,hk⟩:=Ov n hn k
 rw [hz,Option.bind_some]
 by_cases z0:z=0
 case neg=>rw [bne_iff_ne.2 z0,cond_true];exact ⟨_,rfl,fun e=>absurd e z0⟩
 subst z0
 obtain ⟨k1,k2,k3,k4,-⟩:=hk rfl
 rw [show ((0:Int) !=0)=false from rfl,cond_false]
 by_cases a1:h<0
 ·rw [decide_eq_true a1,cond_true];exact ⟨_,rfl,fun e=>by cases e⟩
 rw [decide_eq_false a1,cond_false]
 by_cases a2:h>60000
 ·rw [decide_eq_true a2,cond_true];exact ⟨_,rfl,fun e=>by cases e⟩
 rw [decide_eq_false a2,cond_false]
 by_cases a3:to<0
 ·rw [decide_eq_true a3,cond_true];exact ⟨_,rfl,fun e=>by cases e⟩
 rw [decide_eq_false a3,cond_false]
 by_cases a4:to>60000
 ·rw [decide_eq_true a4,cond_true];exact ⟨_,rfl,fun e=>by cases e⟩
 rw [decide_eq_false a4,cond_false]
 by_cases a5:h>k.B8
 ·rw [decide_eq_true a5,cond_true];exact ⟨_,rfl,fun e=>by cases e⟩
 rw [decide_eq_false a5,cond_false]
 by_cases a6:to>k.B8
 ·rw [decide_eq_true a6,cond_true];exact ⟨_,rfl,fun e=>by cases e⟩
 rw [decide_eq_false a6,cond_false]
 by_cases a7:to≥h
 ·rw [decide_eq_true a7,cond_true,wrap64 (z:=to-h) (by omega) (by omega)]
  obtain ⟨q,hq,q0,q1,q2⟩:=Yt n (to-h) k.C5 (by omega) (by omega) (by omega)
  rw [hq,Option.bind_some]
  refine ⟨_,rfl,fun _=>⟨by omega,by omega,by show 0≤q∧q≤60001;omega,.inl (by rw [Int.mul_comm];exact q2),.inr (by omega),fun e=> ?_,k1,k2,k3,k4⟩⟩
  have hz:=Ael n k.C5 (by omega)
  rw [show to-h=0 by omega,hz] at hq
  cases hq;rfl
 ·rw [decide_eq_false a7,cond_false,wrap64 (z:=h-to) (by omega) (by omega)]
  obtain ⟨q,hq,q0,q1,q2⟩:=Yt n (h-to) k.Cb (by omega) (by omega) (by omega)
  rw [hq,Option.bind_some]
  exact ⟨_,rfl,fun _=>⟨by omega,by omega,by show 0≤q∧q≤60001;omega,.inr (by omega),.inl (by rw [Int.mul_comm];exact q2),fun e=>by omega,k1,k2,k3,k4⟩⟩
end Go.Proofs.YtkdodbfnocdkdaaGreatDoor
set_option linter.unusedVariables false
set_option linter.unusedSimpArgs false
namespace Go.Proofs.YtkdodbfnocdkdaaGreatDoor
section
variable {k:Dg} {h0 to t0 N u:Int}
theorem N5.zero (h:N5 k h0 to N) (hz:N=0):h0=to:=by
 have h1:=h.up
 have h2:=h.down
 rw [hz,Int.mul_zero] at h1 h2
 omega
theorem nW (h:N5 k h0 to N) (hu:t0≤u):min h0 to≤hgt h0 to t0 N u∧hgt h0 to t0 N u≤max h0 to:=by
 unfold hgt
 by_cases he:t0+N≤u
 ·rw [if_pos he];omega
 ·rw [if_neg he]
  have md:=sO (D:=to-h0) (c:=u-t0) (d:=N) (by omega) (by omega)
  rcases Int.lt_or_le (to-h0) 0 with q|q
  ·have:=md.2 q;omega
  ·have:=md.1 q;omega
end
end Go.Proofs.YtkdodbfnocdkdaaGreatDoor
set_option linter.unusedVariables false
set_option linter.unusedSimpArgs false
namespace Go.Proofs.YtkdodbfnocdkdaaGreatDoor
def HOk (k:Dg) (h0 to t0 N u z:Int):Prop:=min h0 to≤z∧z≤max h0 to∧(t0+N≤u→z=to)∧(h0≤to→z≤h0+k.C5*(u-t0))∧(to≤h0→h0-k.Cb*(u-t0)≤z)
end Go.Proofs.YtkdodbfnocdkdaaGreatDoor
set_option linter.unusedVariables false
set_option linter.unusedSimpArgs false
namespace Go.Proofs.YtkdodbfnocdkdaaGreatDoor
def fB (l:List Ab):Prop:=l.Pairwise fun a b=>a.Ac<b.Ac
theorem Cg.pT {l:List Ab} (h:Cg l):fB l:=
 List.pairwise_iff_getElem.2 fun i j hi hj hij=>h.lt' hij (List.getElem?_eq_getElem hi) (List.getElem?_eq_getElem hj)
theorem fB.lt {l:List Ab} (h:fB l) {i j:Nat} {x y:Ab} (hij:i<j) (hx:l[i]?=some x) (hy:l[j]?=some y):x.Ac<y.Ac:=by
 obtain ⟨h1,rfl⟩:=List.getElem?_eq_some_iff.1 hx
 obtain ⟨h2,rfl⟩:=List.getElem?_eq_some_iff.1 hy
 exact List.pairwise_iff_getElem.1 h i j h1 h2 hij
theorem fB.le {l:List Ab} (h:fB l) {i j:Nat} {x y:Ab} (hij:i≤j) (hx:l[i]?=some x) (hy:l[j]?=some y):x.Ac≤y.Ac:=by
 rcases Nat.lt_or_eq_of_le hij with k|rfl
 ·exact Int.le_of_lt (h.lt k hx hy)
 ·rw [hx] at hy;cases hy;exact Int.le_refl _
theorem fB.Xu {m:List Ab} (h:fB m) {i:Nat} {a b c:Ab} (ha:m[i]?=some a) (hb:m[i+1]?=some b) (hc:c∈m):c.Ac≤a.Ac∨b.Ac≤c.Ac:=by
 obtain ⟨j,hj⟩:=List.getElem?_of_mem hc
 rcases Nat.lt_or_ge i j with k|k
 ·exact .inr (h.le k hb hj)
 ·exact .inl (h.le k hj ha)
structure Xo (t N:Int) (M:List Ab):Prop where
 pT:fB M
 nodes:∀x∈M,Hl x
 after:∀x∈M,t<x.Ac
 stop:∀x∈M,t+N<x.Ac→0<N→∃y∈M,y.Ac=t+N
theorem lB (h0 to t0 N:Int) (x:Ab):(hN h0 to t0 N x).Ac=x.Ac:=rfl
theorem Apl {l M:List Ab} {now x:Ab} {h0 to t N:Int} (hx:x∈Ri l t++now::M.map (hN h0 to t N)):(x∈l∧x.Ac<t)∨x=now∨∃y∈M,x=hN h0 to t N y:=by
 rcases List.mem_append.1 hx with k|k
 ·exact .inl (by simpa [Ri] using k)
 rcases List.mem_cons.1 k with k|k
 ·exact .inr (.inl k)
 obtain ⟨y,hy,e⟩:=List.mem_map.1 k
 exact .inr (.inr ⟨y,hy,e.symm⟩)
theorem Apm {l M:List Ab} {now:Ab} {h0 to t N:Int} (hl:Cg l) (ht:now.Ac=t) (hM:Xo t N M):fB (Ri l t++now::M.map (hN h0 to t N)):=by
 refine List.pairwise_append.2 ⟨List.Pairwise.filter _ hl.pT,List.pairwise_cons.2 ⟨fun x hx=> ?_,List.pairwise_map.2 hM.pT⟩,fun x hx y hy=> ?_⟩
 ·obtain ⟨y,hy,rfl⟩:=List.mem_map.1 hx
  rw [ht];exact hM.after y hy
 ·have hx':x.Ac<t:=by have:=(List.mem_filter.1 hx).2;simpa using this
  rcases List.mem_cons.1 hy with k|k
  ·rw [k,ht];exact hx'
  ·obtain ⟨z,hz,rfl⟩:=List.mem_map.1 k
   have:=hM.after z hz
   rw [lB];omega
theorem Arh {k:Dg} {l M:List Ab} {now:Ab} {to t N:Int} (hl:Cg l) (hnow:Hl now) (ht:now.Ac=t) (hM:Xo t N M) (hc:N5 k now.Af to N) (hlen:(Ri l t++now::M.map (hN now.Af to t N)).length≤64):
  Cg (Ri l t++now::M.map (hN now.Af to t N)):=by
 refine ⟨by simp;omega,hlen,fun x hx=> ?_,fun i x y hx hy=>(Apm hl ht hM).lt (Nat.lt_succ_self i) hx hy⟩
 rcases Apl hx with ⟨k,-⟩|rfl|⟨y,hy,rfl⟩
 ·exact hl.nodes x k
 ·exact hnow
 ·obtain ⟨c1,c2,c3,c4,c5,c6,c7,c8,c9⟩:=hM.nodes y hy
  have:=hM.after y hy
  have:=nW (t0:=t) (u:=y.Ac) hc (by omega)
  have h1:=hc.hh
  have h2:=hc.hto
  exact ⟨c1,c2,c3,by show 0≤hgt _ _ _ _ _;omega,by show hgt _ _ _ _ _≤_;omega,c6,c7,c8,c9⟩
theorem Ol {t N:Int} {l:List Ab} (hl:Cg l) (h:N≤0∨(∀x∈Fy l t,x.Ac≤t+N)∨∃y∈Fy l t,y.Ac=t+N):Xo t N (Fy l t):=by
 refine ⟨List.Pairwise.filter _ hl.pT,fun x hx=>hl.nodes x (I9.1 hx).1,fun x hx=>(I9.1 hx).2,fun x hx h1 h2=> ?_⟩
 rcases h with k|k|k
 ·omega
 ·have:=k x hx;omega
 ·exact k
theorem Acq {t N:Int} {l:List Ab} (hl:Cg l) (hN0:0<N) {i:Nat} {x y:Ab} (hx:(Fy l t)[i]?=some x) (h1:x.Ac>t+N) (h2:∀j,j<i→∀z,(Fy l t)[j]?=some z→z.Ac<t+N) (hy:Hl y) (ht:y.Ac=t+N):Xo t N ((Fy l t).take i++y::(Fy l t).drop i):=by
 have hs:fB (Fy l t):=List.Pairwise.filter _ hl.pT
 have lo:∀z∈(Fy l t).take i,z.Ac<t+N:=fun z hz=>by
  obtain ⟨j,hj⟩:=List.getElem?_of_mem hz
  rw [List.getElem?_take] at hj
  split at hj
  ·rename_i hlt;exact h2 j hlt z hj
  ·cases hj
 have hi:∀z∈(Fy l t).drop i,t+N<z.Ac:=fun z hz=>by
  obtain ⟨j,hj⟩:=List.getElem?_of_mem hz
  rw [List.getElem?_drop] at hj
  have:=hs.le (Nat.le_add_right i j) hx hj
  omega
 have mem:∀z∈(Fy l t).take i++y::(Fy l t).drop i,z∈Fy l t∨z=y:=fun z hz=>by
  rcases List.mem_append.1 hz with k|k
  ·exact .inl (List.mem_of_mem_take k)
  rcases List.mem_cons.1 k with k|k
  ·exact .inr k
  ·exact .inl (List.mem_of_mem_drop k)
 refine ⟨List.pairwise_append.2 ⟨hs.sublist (List.take_sublist ..),List.pairwise_cons.2 ⟨fun z hz=>by have:=hi z hz;omega,hs.sublist (List.drop_sublist ..)⟩,fun z hz w hw=> ?_⟩,fun z hz=> ?_,fun z hz=> ?_,fun _ _ _ _=>⟨y,List.mem_append.2 (.inr (List.mem_cons_self ..)),ht⟩⟩
 ·have:=lo z hz
  rcases List.mem_cons.1 hw with k|k
  ·rw [k];omega
  ·have:=hi w k;omega
 ·rcases mem z hz with k|rfl
  ·exact hl.nodes z (I9.1 k).1
  ·exact hy
 ·rcases mem z hz with k|rfl
  ·exact (I9.1 k).2
  ·omega
end Go.Proofs.YtkdodbfnocdkdaaGreatDoor
set_option linter.unusedVariables false
set_option linter.unusedSimpArgs false
namespace Go.Proofs.YtkdodbfnocdkdaaGreatDoor
theorem fK (n:Nat) (hn:64<n) (l:List Ab) (ok:Cg l) (ec:Kg n l=some 0) (t:Int) (now x0 x1:Ab) (h0:l[0]?=some x0) (h1:l[l.length-1]?=some x1) (e:S0 n l t=some (now,0)):x0.Ac≤t:=by
 rcases Jr n hn l ok ec t x0 x1 h0 h1 with ⟨k,-⟩|⟨-,k⟩
 ·exact k
 ·rw [k] at e;cases e
theorem iQ (n:Nat) (hn:200200<n) (l:List Ab) (ok:Cg l) (ec:Kg n l=some 0) (c:Ae) (t:Int) (now:Ab) (k:Dg) (fix:TP) (nt:now.Ac=t) (ht:0≤t∧t≤200000) (N:Int) (hc:N5 k now.Af c.Value N) (e15:aM n k now.Af c.Value=some (N,0)) (e4:S0 n l t=some (now,0)):
  ∃M:List Ab,Xo t N M∧M.length≤65∧Tv n (Et l c t now k fix)=some (M.map (hN now.Af c.Value t N),0):=by
 have hlen:=ok.len
 have hpos:=ok.pos
 have hll:=Zq l t
 have hNN:=hc.hN
 have lp:=fun (R:List Ab) (hR:Xo t N R) (hl:R.length≤65)=>Tb n (Et l c t now k fix) N (t+N) R.length (by omega) (by show t+N=now.Ac+N;omega) ⟨hNN.1,by omega⟩ hc.hh hc.hto (by show 0≤now.Ac∧now.Ac≤200000;omega) R [] n (fun x hx=>⟨by show now.Ac<_;have:=hR.after x hx;omega,(hR.nodes x hx).2.1⟩) (by simp) (by omega)
 have hw:IntKind.wrap .i64 ((Et l c t now k fix).Ap+N)=t+N:=by
  show IntKind.wrap .i64 (now.Ac+N)=t+N
  rw [nt,wrap64 (by omega) (by omega)]
 have hnow:(Et l c t now k fix).Ap=t:=nt
 have hlat:(Et l c t now k fix).later=Fy l t:=rfl
 have hwl:0<(Fy l t).length→IntKind.wrap .i64 (((Fy l t).length:Int)-1)=(((Fy l t).length-1:Nat):Int):=fun h=>by rw [wrap64 (by omega) (by omega)];omega
 have start:∀X:Option (List Ab×Int),((D0 (Fy l t).length 48).bind fun _=>X)=X:=fun X=>by rw [Fk (by omega) (by omega),Option.bind_some]
 have e15':aM n (⟨(Et l c t now k fix).B2,(Et l c t now k fix).B1,(Et l c t now k fix).Bc,(Et l c t now k fix).Bp,(Et l c t now k fix).Bb,(Et l c t now k fix).Bu,(Et l c t now k fix).Bt⟩:Dg) (Et l c t now k fix).Au (Et l c t now k fix).Am=some (N,0):=e15
 by_cases hNp:N>0
 case neg=>
  have hM:=Ol (t:=t) (N:=N) ok (.inl (by omega))
  refine ⟨Fy l t,hM,by omega,?_⟩
  unfold Tv
  rw [e15',Option.bind_some]
  simp only [show ((0:Int) !=0)=false from rfl,cond_false,hw,hlat]
  rw [start,decide_eq_false hNp,cond_false]
  exact (lp _ hM (by omega)).trans (by rw [hnow];rfl)
 by_cases hl0:((Fy l t).length:Int)>0
 case neg=>
  have hM:=Ol (t:=t) (N:=N) ok (.inr (.inl fun x hx=>by have:=List.length_pos_of_mem hx;omega))
  refine ⟨Fy l t,hM,by omega,?_⟩
  unfold Tv
  rw [e15',Option.bind_some]
  simp only [show ((0:Int) !=0)=false from rfl,cond_false,hw,hlat]
  rw [start,decide_eq_true hNp,cond_true,decide_eq_false hl0,cond_false]
  exact (lp _ hM (by omega)).trans (by rw [hnow];rfl)
 have h1:(Fy l t)[(Fy l t).length-1]?=some (Fy l t)[(Fy l t).length-1]:=List.getElem?_eq_getElem (by omega)
 generalize hx1:(Fy l t)[(Fy l t).length-1]=x1 at h1
 have hs:fB (Fy l t):=List.Pairwise.filter _ ok.pT
 by_cases hlast:t+N<x1.Ac
 case neg=>
  have hM:=Ol (t:=t) (N:=N) ok (.inr (.inl fun x hx=>by
   obtain ⟨j,hj⟩:=List.getElem?_of_mem hx
   have:=hs.le (show j≤(Fy l t).length-1 by have:=Dt hj;omega) hj h1
   omega))
  refine ⟨Fy l t,hM,by omega,?_⟩
  unfold Tv
  rw [e15',Option.bind_some]
  simp only [show ((0:Int) !=0)=false from rfl,cond_false,hw,hlat]
  rw [start,decide_eq_true hNp,cond_true,decide_eq_true hl0,cond_true,hwl (by omega),Bl h1,Option.bind_some,decide_eq_false hlast,cond_false]
  exact (lp _ hM (by omega)).trans (by rw [hnow];rfl)
 have hidx:nG n (Fy l t) (t+N)=some (Ef (fun x:Ab=>decide (x.Ac≥t+N)) (Fy l t)):=by
  unfold nG
  refine Ii (fun x:Ab=>decide (x.Ac≥t+N)) (Fy l t) (by omega) (S:=fun y:Int=>Sl n (Fy l t) (t+N) (0) ((Fy l t).length:Int) y) (fun i x hx=> ?_) ?_ n (by omega)
  ·have:=Dt hx
   unfold Sl
   rw [decide_eq_true (show (i:Int)<_ by omega),cond_true,Bl hx,Option.bind_some,wS (by omega)]
   unfold sH
   rw [Option.bind_some]
   cases decide (x.Ac≥t+N)<;>rfl
  ·unfold Sl
   rw [decide_eq_false (Int.lt_irrefl _)];rfl
 have hge:0≤Ef (fun x:Ab=>decide (x.Ac≥t+N)) (Fy l t):=by
  rcases Int.lt_or_le (Ef (fun x:Ab=>decide (x.Ac≥t+N)) (Fy l t)) 0 with h|h
  ·have:=(Lf _ _).1 h x1 (List.mem_of_getElem? h1)
   have:=of_decide_eq_false this
   omega
  ·exact h
 obtain ⟨y,hy,hyt,hbefore⟩:=Q1 _ _ hge
 have hlt:=(Og (fun x:Ab=>decide (x.Ac≥t+N)) (Fy l t)).2
 generalize Ef (fun x:Ab=>decide (x.Ac≥t+N)) (Fy l t)=z at*
 obtain ⟨i,rfl⟩:∃i:Nat,z=(i:Int):=⟨z.toNat,by omega⟩
 rw [Int.toNat_natCast] at hy hbefore
 have hyt':y.Ac≥t+N:=of_decide_eq_true hyt
 by_cases he:y.Ac=t+N
 ·have hM:=Ol (t:=t) (N:=N) ok (.inr (.inr ⟨y,List.mem_of_getElem? hy,he⟩))
  refine ⟨Fy l t,hM,by omega,?_⟩
  unfold Tv
  rw [e15',Option.bind_some]
  simp only [show ((0:Int) !=0)=false from rfl,cond_false,hw,hlat]
  rw [start,decide_eq_true hNp,cond_true,decide_eq_true hl0,cond_true,hwl (by omega),Bl h1,Option.bind_some,decide_eq_true hlast,cond_true,hidx,Option.bind_some,Bl hy,Option.bind_some,show (y.Ac !=t+N)=false from by rw [he];simp,cond_false]
  exact (lp _ hM (by omega)).trans (by rw [hnow];rfl)
 ·have hx0:l[0]?=some l[0]:=List.getElem?_eq_getElem (by omega)
  have hxl:l[l.length-1]?=some l[l.length-1]:=List.getElem?_eq_getElem (by omega)
  have hf:=fK n (by omega) l ok ec t now _ _ hx0 hxl e4
  have hend:t+N≤l[l.length-1].Ac:=by
   obtain ⟨j,hj⟩:=List.getElem?_of_mem (I9.1 (List.mem_of_getElem? h1)).1
   have:=ok.le' (show j≤l.length-1 by have:=Dt hj;omega) hj hxl
   omega
  obtain ⟨r,er,hr,hrt,-⟩:=vW n (by omega) l ok ec (t+N) _ _ hx0 hxl (by omega) hend
  have hM:=Acq ok hNp hy (show y.Ac>t+N by omega) (fun j hj z hz=>by have:=of_decide_eq_false (hbefore j hj z hz);omega) hr hrt
  have hin:jM 48 (Fy l t) (i:Int) [r]=some ((Fy l t).take i++r::(Fy l t).drop i):=by
   unfold jM
   rw [if_pos ⟨by omega,by omega,by simp,by simp only [List.length_singleton];omega,by simp only [List.length_singleton];omega⟩,Int.toNat_natCast]
   simp
  have hML:((Fy l t).take i++r::(Fy l t).drop i).length≤65:=by simp;omega
  refine ⟨_,hM,hML,?_⟩
  unfold Tv
  rw [e15',Option.bind_some]
  simp only [show ((0:Int) !=0)=false from rfl,cond_false,hw,hlat]
  rw [start,decide_eq_true hNp,cond_true,decide_eq_true hl0,cond_true,hwl (by omega),Bl h1,Option.bind_some,decide_eq_true hlast,cond_true,hidx,Option.bind_some,Bl hy,Option.bind_some,bne_iff_ne.2 he,cond_true]
  have er':S0 n (Et l c t now k fix).whole (t+N)=some (r,0):=er
  rw [er',Option.bind_some]
  simp only [hin,Option.bind_some]
  exact (lp _ hM hML).trans (by rw [hnow];rfl)
theorem eL (n:Nat) (a b:TP) (ha:T9 a) (hb:T9 b) (c d:Int) (hc:0≤c∧c≤d) (hd:0<d∧d≤200000):∃r:TP,V9 n a b c d=some (r,0)∧T9 r∧r.X=a.X+((b.X-a.X)*c) / d∧r.Y=a.Y+((b.Y-a.Y)*c) / d:=by
 obtain ⟨r,hr,hr2⟩:=Ps n a b ha hb c d hc hd
 refine ⟨r,hr,hr2,?_⟩
 obtain ⟨a1,a2,a3,a4⟩:=ha
 obtain ⟨b1,b2,b3,b4⟩:=hb
 have ea:Ty n a=some 0:=by
  rcases Jt n a with ⟨e,-⟩|⟨-,h⟩
  ·exact e
  ·exact absurd ⟨a1,a2,a3,a4⟩ h
 have eb:Ty n b=some 0:=by
  rcases Jt n b with ⟨e,-⟩|⟨-,h⟩
  ·exact e
  ·exact absurd ⟨b1,b2,b3,b4⟩ h
 have p1:=prod_bound (D:=b.X-a.X) (c:=c) (M:=2000000) (by omega) (by omega) (by decide)
 have p2:=prod_bound (D:=b.Y-a.Y) (c:=c) (M:=2000000) (by omega) (by omega) (by decide)
 have e1:=Hr n ((b.X-a.X)*c) d p1 (by omega)
 have e2:=Hr n ((b.Y-a.Y)*c) d p2 (by omega)
 obtain ⟨q1,f1,u1,u2⟩:=J6 n (b.X-a.X) c d (by omega) hc hd
 obtain ⟨q2,f2,w1,w2⟩:=J6 n (b.Y-a.Y) c d (by omega) hc hd
 rw [wrap64 (z:=(b.X-a.X)*c) (by omega) (by omega),e1] at f1
 rw [wrap64 (z:=(b.Y-a.Y)*c) (by omega) (by omega),e2] at f2
 have g1:(b.X-a.X)*c / d=q1:=congrArg Prod.fst (Option.some.inj f1)
 have g2:(b.Y-a.Y)*c / d=q2:=congrArg Prod.fst (Option.some.inj f2)
 have x1: -1000000≤a.X+q1∧a.X+q1≤1000000:=by
  rcases Int.lt_or_le (b.X-a.X) 0 with h|h
  ·have:=u2 h;omega
  ·have:=u1 h;omega
 have x2: -1000000≤a.Y+q2∧a.Y+q2≤1000000:=by
  rcases Int.lt_or_le (b.Y-a.Y) 0 with h|h
  ·have:=w2 h;omega
  ·have:=w1 h;omega
 unfold V9 at hr
 rw [decide_eq_false (show ¬d≤0 by omega),decide_eq_false (show ¬d>200000 by omega),decide_eq_false (show ¬c<0 by omega),decide_eq_false (show ¬c>d by omega),ea,eb,wrap64 (z:=b.X-a.X) (by omega) (by omega),wrap64 (z:=b.Y-a.Y) (by omega) (by omega),wrap64 (z:=(b.X-a.X)*c) (by omega) (by omega),wrap64 (z:=(b.Y-a.Y)*c) (by omega) (by omega)] at hr
 simp only [cond_false,Option.bind_some,show ((0:Int) !=0)=false from rfl] at hr
 rw [e1,e2] at hr
 simp only [Option.bind_some] at hr
 rw [g1,g2,wrap64 (z:=a.X+q1) (by omega) (by omega),wrap64 (z:=a.Y+q2) (by omega) (by omega)] at hr
 have hrr:(⟨a.X+q1,a.Y+q2⟩:TP)=r:=congrArg Prod.fst (Option.some.inj hr)
 rw [← hrr,g1,g2]
 exact ⟨rfl,rfl⟩
theorem Ac4 (n:Nat) (hn:64<n) (l:List Ab) (h:Cg l) (hc:Kg n l=some 0) (u:Int) (x0 x1:Ab) (h0:l[0]?=some x0) (h1:l[l.length-1]?=some x1) (ht0:x0.Ac≤u) (ht1:u≤x1.Ac):
  ∃r:Ab,S0 n l u=some (r,0)∧Hl r∧r.Ac=u∧((∃i:Nat,l[i]?=some r)∨∃(i:Nat) (a b:Ab),l[i]?=some a∧l[i+1]?=some b∧a.Ac<u∧u<b.Ac∧r.Af=a.Af+((b.Af-a.Af)*(u-a.Ac)) / (b.Ac-a.Ac)∧r.Ak=a.Ak+((b.Ak-a.Ak)*(u-a.Ac)) / (b.Ac-a.Ac)∧r.Aj=a.Aj+((b.Aj-a.Aj)*(u-a.Ac)) / (b.Ac-a.Ac)):=by
 have hp:=h.pos
 have b0:=h.nodes x0 (List.mem_of_getElem? h0)
 have b1:=h.nodes x1 (List.mem_of_getElem? h1)
 have fin:∀r:Ab,P1 n l u=some r→S0 n l u=some (r,0):=fun r hr=>by
  rcases Jr n hn l h hc u x0 x1 h0 h1 with ⟨-,-,r',e1,e2⟩|⟨k,-⟩
  ·rw [hr] at e1;cases e1;exact e2
  ·omega
 obtain ⟨i,hi,k1,k2,b,hb,hbt⟩:=On n hn l h u (by have:=b0.1;have:=b1.2.1;omega)
 cases b with
 |true=>
  obtain ⟨x,hx,hxt⟩:=hbt.1 rfl
  refine ⟨x,fin x ?_,h.nodes x (List.mem_of_getElem? hx),hxt,.inl ⟨i,hx⟩⟩
  unfold P1
  rw [hb,Option.bind_some]
  simp only [cond_true]
  rw [Bl hx];rfl
 |false=>
  have hil:i<l.length:=by
   rcases Nat.lt_or_ge i l.length with h'|h'
   ·exact h'
   ·have:=k1 (l.length-1) x1 (by omega) h1;omega
  have hi0:0<i:=by
   rcases Nat.eq_zero_or_pos i with rfl|h'
   ·have:=k2 0 x0 (Nat.le_refl _) h0
    have:=hbt.2 ⟨x0,h0,by omega⟩
    cases this
   ·exact h'
  have ha:l[i-1]?=some l[i-1]:=List.getElem?_eq_getElem (by omega)
  have hb':l[i]?=some l[i]:=List.getElem?_eq_getElem hil
  have na:=h.nodes _ (List.mem_of_getElem? ha)
  have nb:=h.nodes _ (List.mem_of_getElem? hb')
  have ta:=k1 (i-1) _ (by omega) ha
  have tb:u<l[i].Ac:=by
   have:=k2 i _ (Nat.le_refl _) hb'
   rcases Int.lt_or_eq_of_le this with k|k
   ·exact k
   ·have:=hbt.2 ⟨_,hb',k.symm⟩;cases this
  have hw:IntKind.wrap .i64 ((i:Int)-1)=((i-1:Nat):Int):=by have:=h.len;rw [wrap64 (by omega) (by omega)];omega
  obtain ⟨a1,a2,a3,a4,a5,a6,a7,a8,a9⟩:=na
  obtain ⟨c1,c2,c3,c4,c5,c6,c7,c8,c9⟩:=nb
  obtain ⟨q1,e1,hq,qx,qy⟩:=eL n (⟨l[i-1].Ak,l[i-1].Aj⟩:TP) (⟨l[i].Ak,l[i].Aj⟩:TP) a3 c3 (u-l[i-1].Ac) (l[i].Ac-l[i-1].Ac) (by omega) (by omega)
  have pb:=prod_bound (D:=l[i].Af-l[i-1].Af) (c:=u-l[i-1].Ac) (M:=2000000) (by omega) (by omega) (by decide)
  have e2:=Hr n ((l[i].Af-l[i-1].Af)*(u-l[i-1].Ac)) (l[i].Ac-l[i-1].Ac) pb (by omega)
  obtain ⟨qh,eh,v1,v2⟩:=J6 n (l[i].Af-l[i-1].Af) (u-l[i-1].Ac) (l[i].Ac-l[i-1].Ac) (by omega) (by omega) (by omega)
  rw [wrap64 (by omega) (by omega),e2] at eh
  simp only [Option.some.injEq,Prod.mk.injEq,and_true] at eh
  obtain ⟨q3,e3,y1,y2⟩:=Yr n (l[i].Aw-l[i-1].Aw) (u-l[i-1].Ac) (l[i].Ac-l[i-1].Ac) (by omega) (by omega) (by omega)
  obtain ⟨q4,e4,z1,z2⟩:=Yr n (l[i].Bi-l[i-1].Bi) (u-l[i-1].Ac) (l[i].Ac-l[i-1].Ac) (by omega) (by omega) (by omega)
  have hH:0≤l[i-1].Af+qh∧l[i-1].Af+qh≤60000:=by
   rcases Int.lt_or_le (l[i].Af-l[i-1].Af) 0 with k|k
   ·have:=v2 k;omega
   ·have:=v1 k;omega
  have hR:0≤l[i-1].Aw+q3∧l[i-1].Aw+q3≤1000000:=by
   rcases Int.lt_or_le (l[i].Aw-l[i-1].Aw) 0 with k|k
   ·have:=y2 k;omega
   ·have:=y1 k;omega
  have hB:0≤l[i-1].Bi+q4∧l[i-1].Bi+q4≤60000:=by
   rcases Int.lt_or_le (l[i].Bi-l[i-1].Bi) 0 with k|k
   ·have:=z2 k;omega
   ·have:=z1 k;omega
  refine ⟨(⟨u,q1.X,q1.Y,l[i-1].Af+qh,l[i-1].Aw+q3,l[i-1].Bi+q4⟩:Ab),fin _ ?_,⟨by show 0≤u;omega,by show u≤200000;omega,hq,hH.1,hH.2,hR.1,hR.2,hB.1,hB.2⟩,rfl,.inr ⟨i-1,l[i-1],l[i],ha,by rw [show i-1+1=i by omega];exact hb',ta,tb,by show l[i-1].Af+qh=_;rw [eh],qx,qy⟩⟩
  unfold P1
  rw [hb,Option.bind_some]
  simp only [cond_false]
  rw [hw,Bl ha,Bl hb']
  simp only [Option.bind_some]
  rw [wrap64 (z:=u-l[i-1].Ac) (by omega) (by omega),wrap64 (z:=l[i].Ac-l[i-1].Ac) (by omega) (by omega),e1,Option.bind_some,wrap64 (z:=l[i].Af-l[i-1].Af) (by omega) (by omega),wrap64 (z:=(l[i].Af-l[i-1].Af)*(u-l[i-1].Ac)) (by omega) (by omega),e2,Option.bind_some,wrap64 (z:=l[i].Aw-l[i-1].Aw) (by omega) (by omega),e3,Option.bind_some,wrap64 (z:=l[i].Bi-l[i-1].Bi) (by omega) (by omega),e4,Option.bind_some,eh,wrap64 (z:=l[i-1].Af+qh) (by omega) (by omega),wrap64 (z:=l[i-1].Aw+q3) (by omega) (by omega),wrap64 (z:=l[i-1].Bi+q4) (by omega) (by omega)]
theorem Sy {D n N d:Int} (hn:0≤n∧n≤N) (hN:0<N) (hd:0<d):(D*n) / d-1≤((D*N) / d*n) / N∧((D*N) / d*n) / N≤(D*n) / d:=by
 obtain ⟨p,hp⟩:∃p,(D*N) / d=p:=⟨_,rfl⟩
 obtain ⟨q,hq⟩:∃q,(D*n) / d=q:=⟨_,rfl⟩
 rw [hp,hq]
 have p1:p*d≤D*N:=by rw [← hp];exact Int.ediv_mul_le _ (by omega)
 have p2:D*N<(p+1)*d:=by rw [← hp];exact Int.lt_ediv_add_one_mul_self _ hd
 have q1:q*d≤D*n:=by rw [← hq];exact Int.ediv_mul_le _ (by omega)
 have q2:D*n<(q+1)*d:=by rw [← hq];exact Int.lt_ediv_add_one_mul_self _ hd
 constructor
 ·refine Int.le_ediv_of_mul_le hN ?_
  have h1:(p*d)*n≥(D*N-d)*n:=Int.mul_le_mul_of_nonneg_right (by rw [Int.add_mul,Int.one_mul] at p2;omega) hn.1
  have h2:(q*d)*N≤(D*n)*N:=Int.mul_le_mul_of_nonneg_right q1 (by omega)
  have h3:d*n≤d*N:=Int.mul_le_mul_of_nonneg_left hn.2 (by omega)
  have e1:(D*N-d)*n=(D*n)*N-d*n:=by grind
  have e2:(p*d)*n=d*(p*n):=by grind
  have e3:(q*d)*N-d*N=d*((q-1)*N):=by grind
  have h4:d*((q-1)*N)≤d*(p*n):=by omega
  exact Int.le_of_mul_le_mul_left h4 hd
 ·rw [← hq]
  refine Int.le_ediv_of_mul_le hd ?_
  obtain ⟨s,hs⟩:∃s,p*n / N=s:=⟨_,rfl⟩
  rw [hs]
  have s1:s*N≤p*n:=by rw [← hs];exact Int.ediv_mul_le _ (by omega)
  have h1:(s*N)*d≤(p*n)*d:=Int.mul_le_mul_of_nonneg_right s1 (by omega)
  have h2:(p*d)*n≤(D*N)*n:=Int.mul_le_mul_of_nonneg_right p1 hn.1
  have e1:(p*n)*d=(p*d)*n:=by grind
  have e2:(s*N)*d=N*(s*d):=by grind
  have e3:(D*N)*n=N*(D*n):=by grind
  have h3:N*(s*d)≤N*(D*n):=by omega
  exact Int.le_of_mul_le_mul_left h3 hN
end Go.Proofs.YtkdodbfnocdkdaaGreatDoor
set_option linter.unusedVariables false
set_option linter.unusedSimpArgs false
set_option maxHeartbeats 4000000
namespace Go.Proofs.YtkdodbfnocdkdaaGreatDoor
structure AtF (l:List Ab) (u:Int) (r:Ab):Prop where
 nb:Hl r
 tm:r.Ac=u
 cs:(∃i:Nat,l[i]?=some r)∨∃(i:Nat) (a b:Ab),l[i]?=some a∧l[i+1]?=some b∧a.Ac<u∧u<b.Ac∧r.Af=a.Af+((b.Af-a.Af)*(u-a.Ac)) / (b.Ac-a.Ac)∧r.Ak=a.Ak+((b.Ak-a.Ak)*(u-a.Ac)) / (b.Ac-a.Ac)∧r.Aj=a.Aj+((b.Aj-a.Aj)*(u-a.Ac)) / (b.Ac-a.Ac)
theorem Gb {l:List Ab} (h:fB l) {x y:Ab} (hx:x∈l) (hy:y∈l) (e:x.Ac=y.Ac):x=y:=by
 obtain ⟨i,hi⟩:=List.getElem?_of_mem hx
 obtain ⟨j,hj⟩:=List.getElem?_of_mem hy
 rcases Nat.lt_trichotomy i j with q|q|q
 ·have:=h.lt q hi hj;omega
 ·subst q;rw [hi] at hj;exact Option.some.inj hj
 ·have:=h.lt q hj hi;omega
def Kf (r s:Ab):Prop:=(-1≤r.Ak-s.Ak∧r.Ak-s.Ak≤1)∧(-1≤r.Aj-s.Aj∧r.Aj-s.Aj≤1)∧(-1≤r.Af-s.Af∧r.Af-s.Af≤1)
theorem Kf.self (r:Ab):Kf r r:=by unfold Kf;omega
theorem Kf.of_eq {r s:Ab} (h1:r.Af=s.Af) (h2:r.Ak=s.Ak) (h3:r.Aj=s.Aj):Kf r s:=by unfold Kf;omega
theorem agree {l W m:List Ab} {t u:Int} {now r s:Ab} (hl:fB l) (hm:fB m) (em:m=Ri l t++now::W) (hW:∀x∈W,t<x.Ac) (hnow:AtF l t now) (hu:u≤t) (hr:AtF l u r) (hs:AtF m u s):Kf r s∧(u=t→r=now→s=now):=by
 have mnow:now∈m:=by rw [em];simp
 have mbef:∀x∈l,x.Ac<t→x∈m:=fun x h1 h2=>by
  rw [em]
  exact List.mem_append_left _ (List.mem_filter.2 ⟨h1,decide_eq_true h2⟩)
 have mlow:∀x∈m,x.Ac<t→x∈l:=fun x h1 h2=>by
  rw [em] at h1
  rcases List.mem_append.1 h1 with q|q
  ·exact (List.mem_filter.1 q).1
  ·rcases List.mem_cons.1 q with rfl|q
   ·have:=hnow.tm;omega
   ·have:=hW x q;omega
 have tnow:=hnow.tm
 obtain ⟨nr,tr,cr⟩:=hr
 obtain ⟨ns,ts,cs⟩:=hs
 by_cases hut:u=t
 ·
  subst hut
  have hs2:s=now:=by
   rcases cs with ⟨j,hj⟩|⟨j,a,b,ha,hb,h1,h2,-⟩
   ·exact Gb hm (List.mem_of_getElem? hj) mnow (by omega)
   ·rcases hm.Xu ha hb mnow with q|q<;>omega
  have hr2:Kf r now:=by
   obtain ⟨-,-,cn⟩:=hnow
   rcases cr with ⟨i,hi⟩|⟨i,a,b,ha,hb,h1,h2,e1,e2,e3⟩
   ·rcases cn with ⟨j,hj⟩|⟨j,a',b',ha',hb',k1,k2,-⟩
    ·rw [Gb hl (List.mem_of_getElem? hi) (List.mem_of_getElem? hj) (by omega)]
     exact Kf.self _
    ·rcases hl.Xu ha' hb' (List.mem_of_getElem? hi) with q|q<;>omega
   ·rcases cn with ⟨j,hj⟩|⟨j,a',b',ha',hb',k1,k2,f1,f2,f3⟩
    ·rcases hl.Xu ha hb (List.mem_of_getElem? hj) with q|q<;>omega
    ·have ea:a=a':=Gb hl (List.mem_of_getElem? ha) (List.mem_of_getElem? ha') (by
      rcases hl.Xu ha hb (List.mem_of_getElem? ha') with q|q<;>rcases hl.Xu ha' hb' (List.mem_of_getElem? ha) with q'|q'<;>omega)
     have eb:b=b':=Gb hl (List.mem_of_getElem? hb) (List.mem_of_getElem? hb') (by
      rcases hl.Xu ha hb (List.mem_of_getElem? hb') with q|q<;>rcases hl.Xu ha' hb' (List.mem_of_getElem? hb) with q'|q'<;>omega)
     subst ea
     subst eb
     exact Kf.of_eq (by omega) (by omega) (by omega)
  exact ⟨by rw [hs2];exact hr2,fun _ _=>hs2⟩
 refine ⟨?_,fun e=>absurd e hut⟩
 have hult:u<t:=by omega
 rcases cr with ⟨i,hi⟩|⟨i,a,b,ha,hb,h1,h2,e1,e2,e3⟩
 ·
  have rm:=mbef r (List.mem_of_getElem? hi) (by omega)
  rcases cs with ⟨j,hj⟩|⟨j,a',b',ha',hb',k1,k2,-⟩
  ·rw [Gb hm rm (List.mem_of_getElem? hj) (by omega)]
   exact Kf.self _
  ·rcases hm.Xu ha' hb' rm with q|q<;>omega
 ·have am:=mbef a (List.mem_of_getElem? ha) (by omega)
  rcases cs with ⟨j,hj⟩|⟨j,a',b',ha',hb',k1,k2,f1,f2,f3⟩
  ·have:=mlow s (List.mem_of_getElem? hj) (by omega)
   rcases hl.Xu ha hb this with q|q<;>omega
  ·have a'l:=mlow a' (List.mem_of_getElem? ha') (by omega)
   have ea:a=a':=Gb hl (List.mem_of_getElem? ha) a'l (by
    rcases hl.Xu ha hb a'l with q|q<;>rcases hm.Xu ha' hb' am with q'|q'<;>omega)
   subst ea
   have b't:b'.Ac≤t:=by
    rcases hm.Xu ha' hb' mnow with q|q<;>omega
   by_cases hbt:b.Ac<t
   ·have bm:=mbef b (List.mem_of_getElem? hb) hbt
    have b'b:b'.Ac≤b.Ac:=by
     rcases hm.Xu ha' hb' bm with q|q<;>omega
    have b'l:=mlow b' (List.mem_of_getElem? hb') (by omega)
    have eb:b=b':=Gb hl (List.mem_of_getElem? hb) b'l (by
     rcases hl.Xu ha hb b'l with q|q<;>omega)
    subst eb
    exact Kf.of_eq (by omega) (by omega) (by omega)
   ·have b't2:b'.Ac=t:=by
     refine Int.le_antisymm b't (Decidable.byContradiction fun q=> ?_)
     have b'l:=mlow b' (List.mem_of_getElem? hb') (by omega)
     rcases hl.Xu ha hb b'l with q|q<;>omega
    have eb':b'=now:=Gb hm (List.mem_of_getElem? hb') mnow (by omega)
    subst eb'
    obtain ⟨-,-,cn⟩:=hnow
    rcases cn with ⟨j2,hj2⟩|⟨j2,a2,b2,ha2,hb2,g1,g2,d1,d2,d3⟩
    ·have:b=b':=Gb hl (List.mem_of_getElem? hb) (List.mem_of_getElem? hj2) (by
      rcases hl.Xu ha hb (List.mem_of_getElem? hj2) with q|q<;>omega)
     subst this
     exact Kf.of_eq (by omega) (by omega) (by omega)
    ·have ea:a=a2:=Gb hl (List.mem_of_getElem? ha) (List.mem_of_getElem? ha2) (by
      rcases hl.Xu ha hb (List.mem_of_getElem? ha2) with q|q<;>rcases hl.Xu ha2 hb2 (List.mem_of_getElem? ha) with q'|q'<;>omega)
     have eb:b=b2:=Gb hl (List.mem_of_getElem? hb) (List.mem_of_getElem? hb2) (by
      rcases hl.Xu ha hb (List.mem_of_getElem? hb2) with q|q<;>rcases hl.Xu ha2 hb2 (List.mem_of_getElem? hb) with q'|q'<;>omega)
     subst ea
     subst eb
     have q1:=Sy (D:=b.Af-a.Af) (n:=u-a.Ac) (N:=t-a.Ac) (d:=b.Ac-a.Ac) (by omega) (by omega) (by omega)
     have q2:=Sy (D:=b.Ak-a.Ak) (n:=u-a.Ac) (N:=t-a.Ac) (d:=b.Ac-a.Ac) (by omega) (by omega) (by omega)
     have q3:=Sy (D:=b.Aj-a.Aj) (n:=u-a.Ac) (N:=t-a.Ac) (d:=b.Ac-a.Ac) (by omega) (by omega) (by omega)
     rw [b't2,show b'.Af-a.Af=(b.Af-a.Af)*(t-a.Ac) / (b.Ac-a.Ac) by omega] at f1
     rw [b't2,show b'.Ak-a.Ak=(b.Ak-a.Ak)*(t-a.Ac) / (b.Ac-a.Ac) by omega] at f2
     rw [b't2,show b'.Aj-a.Aj=(b.Aj-a.Aj)*(t-a.Ac) / (b.Ac-a.Ac) by omega] at f3
     unfold Kf
     rw [e1,e2,e3,f1,f2,f3]
     clear e1 e2 e3 f1 f2 f3 d1 d2 d3
     generalize (b.Af-a.Af)*(u-a.Ac) / (b.Ac-a.Ac)=H1 at*
     generalize (b.Af-a.Af)*(t-a.Ac) / (b.Ac-a.Ac)*(u-a.Ac) / (t-a.Ac)=H2 at*
     generalize (b.Ak-a.Ak)*(u-a.Ac) / (b.Ac-a.Ac)=X1 at*
     generalize (b.Ak-a.Ak)*(t-a.Ac) / (b.Ac-a.Ac)*(u-a.Ac) / (t-a.Ac)=X2 at*
     generalize (b.Aj-a.Aj)*(u-a.Ac) / (b.Ac-a.Ac)=Y1 at*
     generalize (b.Aj-a.Aj)*(t-a.Ac) / (b.Ac-a.Ac)*(u-a.Ac) / (t-a.Ac)=Y2 at*
     omega
end Go.Proofs.YtkdodbfnocdkdaaGreatDoor
set_option linter.unusedVariables false
set_option linter.unusedSimpArgs false
namespace Go.Proofs.YtkdodbfnocdkdaaGreatDoor
def Sp (x:Ab):TP:=⟨x.Ak,x.Aj⟩
def kq (x:Ab):TP×Int×Int×Int:=(Sp x,x.Af,x.Aw,x.Bi)
def tA (n:Nat) (v:Int) (p x:Ab):Prop:=p.Ac<x.Ac∧x.Ac≤200000∧T9 (Sp p)∧T9 (Sp x)∧∀f c,Mf n (Sp p) (Sp x)=some (f,c)→f≤v*(x.Ac-p.Ac)
def Mj (n:Nat) (v:Int):Ab→List Ab→Prop
 |_,[]=>True
 |p,x::r=>tA n v p x∧Mj n v x r
def Gm:Ab→List Ab→Ab
 |p,[]=>p
 |_,x::r=>Gm x r
theorem Va {n:Nat} {v:Int}:∀(D:List Ab) (p x:Ab),Mj n v p D→tA n v (Gm p D) x→Mj n v p (D++[x])
 |[],p,x,_,h=>⟨h,trivial⟩
 |y::D,p,x,h,h2=>⟨h.1,Va D y x h.2 h2⟩
theorem S4:∀(D:List Ab) (p x:Ab),Gm p (D++[x])=x
 |[],p,x=>rfl
 |y::D,p,x=>S4 D y x
theorem Xn (n:Nat) (hn:64<n) (T:Fs) (N:Nat) (hN:N≤64) (now:Ab) (hv:1≤T.Am∧T.Am≤400):∀(R D:List Ab) (m:Nat),(∀x∈R,Hl x)→Mj n T.Am now D→T9 (Sp (Gm now D))→0≤(Gm now D).Ac→(Gm now D).Ac≤200000→D.length+R.length=N→R.length<m→
  (Bw (fun y:Int×List Ab×Int×Int×Int×Int×Int×Int=>Py n (0) (N:Int) T.Av T.Aq T.Am T.Ay T.before T.later T.Ap T.A6 T.A5 T.Au T.Bj T.B9 T.B2 T.B1 T.Bc T.Bp T.Bb T.Bu T.Bt T.Dj T.Dp T.whole y.1 y.2.1 y.2.2.1 y.2.2.2.1 y.2.2.2.2.1 y.2.2.2.2.2.1 y.2.2.2.2.2.2.1 y.2.2.2.2.2.2.2) m
   ((D.length:Int),D++R,(Gm now D).Ac,(Gm now D).Ak,(Gm now D).Aj,(Gm now D).Af,(Gm now D).Aw,(Gm now D).Bi)=some ([],12))∨
  ∃R':List Ab,R'.map kq=R.map kq∧Mj n T.Am now (D++R')∧
  (Bw (fun y:Int×List Ab×Int×Int×Int×Int×Int×Int=>Py n (0) (N:Int) T.Av T.Aq T.Am T.Ay T.before T.later T.Ap T.A6 T.A5 T.Au T.Bj T.B9 T.B2 T.B1 T.Bc T.Bp T.Bb T.Bu T.Bt T.Dj T.Dp T.whole y.1 y.2.1 y.2.2.1 y.2.2.2.1 y.2.2.2.2.1 y.2.2.2.2.2.1 y.2.2.2.2.2.2.1 y.2.2.2.2.2.2.2) m
   ((D.length:Int),D++R,(Gm now D).Ac,(Gm now D).Ak,(Gm now D).Aj,(Gm now D).Af,(Gm now D).Aw,(Gm now D).Bi)=some (D++R',0))
 |[],D,m,hR,hD,hp,ht0,ht1,hl,hm=>by
  obtain ⟨q,rfl⟩:∃q,m=q+1:=⟨m-1,by omega⟩
  right
  refine ⟨[],rfl,by simpa using hD,?_⟩
  simp only [Bw]
  unfold Py
  rw [decide_eq_false (show ¬(D.length:Int)<(N:Int) by simp at hl;omega),cond_false]
 |x::R,D,m,hR,hD,hp,ht0,ht1,hl,hm=>by
  obtain ⟨q,rfl⟩:∃q,m=q+1:=⟨m-1,by omega⟩
  simp only [List.length_cons] at hl hm
  have hx:=hR x (List.mem_cons_self ..)
  generalize hlast:Gm now D=p at*
  have hpx:T9 (⟨p.Ak,p.Aj⟩:TP):=hp
  obtain ⟨f,c,ed,f0,f1,f2,f3,-⟩:=Q9 n hn (⟨p.Ak,p.Aj⟩:TP) (⟨x.Ak,x.Aj⟩:TP) hpx hx.2.2.1
  obtain ⟨w,hw,w0,w1,w2⟩:=Yt n c T.Am (by omega) (by omega) (by omega)
  have gx:(D++x::R)[D.length]?=some x:=by simp
  generalize hM:(if w>1 then w else 1)=M
  have M0:1≤M:=by rw [← hM];split<;>omega
  have M1:M≤3000010:=by rw [← hM];split<;>omega
  have M2:w≤M:=by rw [← hM];split<;>omega
  have hset:(D++x::R).set D.length (⟨p.Ac+M,x.Ak,x.Aj,x.Af,x.Aw,x.Bi⟩:Ab)=(D++[(⟨p.Ac+M,x.Ak,x.Aj,x.Af,x.Aw,x.Bi⟩:Ab)])++R:=by
   rw [List.set_append_right _ _ (Nat.le_refl _)];simp
  have gs:((D++[(⟨p.Ac+M,x.Ak,x.Aj,x.Af,x.Aw,x.Bi⟩:Ab)])++R)[D.length]?=some (⟨p.Ac+M,x.Ak,x.Aj,x.Af,x.Aw,x.Bi⟩:Ab):=by simp
  generalize hy:(⟨p.Ac+M,x.Ak,x.Aj,x.Af,x.Aw,x.Bi⟩:Ab)=y at*
  have yT:y.Ac=p.Ac+M:=by rw [← hy]
  have yP:Sp y=Sp x:=by rw [← hy];rfl
  have yQ:kq y=kq x:=by rw [← hy];rfl
  simp only [Bw]
  unfold Py
  rw [decide_eq_true (show (D.length:Int)<(N:Int) by omega),cond_true,Bl gx,Option.bind_some,ed,Option.bind_some,hw,Option.bind_some,Option.bind_some,hM,wrap64 (z:=p.Ac+M) (by omega) (by omega),Int.toNat_natCast,hy,hset,Bl gs,Option.bind_some,Option.bind_some,wS (by omega)]
  by_cases hbig:y.Ac>200000
  ·rw [decide_eq_true hbig,cond_true];left;rfl
  rw [decide_eq_false hbig,cond_false]
  have hpc:tA n T.Am p y:=by
   refine ⟨by omega,by omega,hp,by rw [yP];exact hx.2.2.1,fun f' c' e'=> ?_⟩
   rw [yP] at e'
   have:Mf n (Sp p) (Sp x)=some (f,c):=ed
   rw [this] at e'
   cases e'
   have h1:w*T.Am≤M*T.Am:=Int.mul_le_mul_of_nonneg_right M2 (by omega)
   rw [yT,show p.Ac+M-p.Ac=M by omega,Int.mul_comm]
   omega
  have hD':Mj n T.Am now (D++[y]):=Va D now y hD (by rw [hlast];exact hpc)
  have hl':=S4 D now y
  have ih:=Xn n hn T N hN now hv R (D++[y]) q (fun z hz=>hR z (List.mem_cons_of_mem _ hz)) hD' (by rw [hl',yP];exact hx.2.2.1) (by rw [hl'];omega) (by rw [hl'];omega) (by simp;omega) (by omega)
  rw [hl',show ((D++[y]).length:Int)=((D.length+1:Nat):Int) by simp] at ih
  rcases ih with ih|⟨R',k1,k2,ih⟩
  ·left;exact ih
  ·right
   refine ⟨y::R',by rw [List.map_cons,List.map_cons,k1,yQ],by simpa using k2,?_⟩
   rw [show D++y::R'=(D++[y])++R' by simp]
   exact ih
end Go.Proofs.YtkdodbfnocdkdaaGreatDoor
set_option linter.unusedVariables false
set_option linter.unusedSimpArgs false
set_option maxHeartbeats 4000000
namespace Go.Proofs.YtkdodbfnocdkdaaGreatDoor
theorem uU (n:Nat) {a:Int} (h1: -4000000000000000000≤a) (h2:a≤4000000000000000000):∃z,iT n a 16384=some z:=by
 have pos:∀b:Int,∃z,S8 b 16384=some z:=fun b=>by
  unfold S8 Ky
  rw [if_neg (by decide)]
  exact ⟨_,rfl⟩
 unfold iT
 by_cases h0:a<0
 ·rw [decide_eq_true h0,cond_true,wrap64 (z:=0-a) (by omega) (by omega),decide_eq_false (show ¬0-a<0 by omega),cond_false]
  obtain ⟨z,hz⟩:=pos (0-a)
  rw [hz]
  exact ⟨_,rfl⟩
 ·rw [decide_eq_false h0,cond_false]
  exact pos a
theorem hG (n:Nat) (h len:Int):∃r,nL n h len=some r:=by
 unfold nL
 by_cases c1:len<0
 ·rw [decide_eq_true c1];exact ⟨_,rfl⟩
 rw [decide_eq_false c1,cond_false]
 by_cases c2:len>2000000
 ·rw [decide_eq_true c2];exact ⟨_,rfl⟩
 rw [decide_eq_false c2,cond_false]
 have bd:∀s:Int,-268435456≤s→s≤268435456→∃z,iT n (IntKind.wrap .i64 (len*s)) 16384=some z:=fun s s1 s2=>by
  have p1:len*s≤len*268435456:=Int.mul_le_mul_of_nonneg_left s2 (by omega)
  have p2:len* -268435456≤len*s:=Int.mul_le_mul_of_nonneg_left s1 (by omega)
  rw [wrap64 (z:=len*s) (by omega) (by omega)]
  exact uU n (by omega) (by omega)
 obtain ⟨s,hs,s1,s2⟩:=Q4 n h
 obtain ⟨x,hx⟩:=bd s s1 s2
 have hcos:∃c,bO n h=some c∧-268435456≤c∧c≤268435456:=by
  unfold bO
  obtain ⟨m,hm,-⟩:=K9 n h
  rw [hm,Option.bind_some]
  obtain ⟨z,hz,z1,z2⟩:=Q4 n (IntKind.wrap .i64 ((m:Int)+1024))
  rw [hz]
  exact ⟨z,rfl,z1,z2⟩
 obtain ⟨c,hc,c3,c4⟩:=hcos
 obtain ⟨y,hy⟩:=bd c c3 c4
 rw [hs,Option.bind_some,hx,Option.bind_some,hc,Option.bind_some,hy,Option.bind_some]
 exact ⟨_,rfl⟩
structure dL (t:Int) (W:List Ab):Prop where
 pT:fB W
 nodes:∀x∈W,Hl x
 after:∀x∈W,t<x.Ac
theorem Abr {l W:List Ab} {now:Ab} {t:Int} (hl:Cg l) (hnow:Hl now) (ht:now.Ac=t) (hW:dL t W) (hlen:(Ri l t++now::W).length≤64):Cg (Ri l t++now::W):=by
 have pT:fB (Ri l t++now::W):=by
  refine List.pairwise_append.2 ⟨hl.pT.filter _,List.pairwise_cons.2 ⟨fun x hx=>by have:=hW.after x hx;omega,hW.pT⟩,fun x hx y hy=> ?_⟩
  have hx2:x.Ac<t:=by simpa using (List.mem_filter.1 hx).2
  rcases List.mem_cons.1 hy with rfl|hy
  ·omega
  ·have:=hW.after y hy;omega
 refine ⟨by simp;omega,hlen,fun x hx=> ?_,fun i x y hx hy=>pT.lt (Nat.lt_succ_self i) hx hy⟩
 rcases List.mem_append.1 hx with q|q
 ·exact hl.nodes x (List.mem_filter.1 q).1
 ·rcases List.mem_cons.1 q with rfl|q
  ·exact hnow
  ·exact hW.nodes x q
theorem Aay {l:List Ab} (hl:Cg l) (t:Int):dL t (Fy l t):=⟨hl.pT.filter _,fun x hx=>hl.nodes x (I9.1 hx).1,fun x hx=>by have:=(I9.1 hx).2;omega⟩
theorem Wv (n:Nat) (hn:64<n) {l:List Ab} (hl:Cg l) {now:Ab} {t:Int} (hnow:Hl now) (ht:now.Ac=t) (hne:Fy l t≠[]):∃v:Int,0≤v∧v≤3000000∧∀T:Fs,T.later=Fy l t→T.Ap=now.Ac→T.A6=now.Ak→T.A5=now.Aj→iD n T=some v:=by
 have hlp:0<(Fy l t).length:=List.length_pos_iff.2 hne
 have hy:(Fy l t)[0]?=some (Fy l t)[0]:=List.getElem?_eq_getElem hlp
 have gy:Ch (Fy l t) 0=some (Fy l t)[0]:=Bl (i:=0) hy
 obtain ⟨my,ty⟩:=I9.1 (List.mem_of_getElem? hy)
 have by':=hl.nodes _ my
 generalize hY:(Fy l t)[0]=y at*
 obtain ⟨f,cc,ed,f0,f1,f2,f3,-⟩:=Q9 n hn (⟨now.Ak,now.Aj⟩:TP) (⟨y.Ak,y.Aj⟩:TP) hnow.2.2.1 by'.2.2.1
 have hdt:0<y.Ac-now.Ac:=by omega
 have h1:=by'.2.1
 have h2:=hnow.1
 have hv0:0≤f / (y.Ac-now.Ac):=Int.ediv_nonneg f0 (by omega)
 have hv1:f / (y.Ac-now.Ac)≤f:=Int.ediv_le_self _ f0
 refine ⟨f / (y.Ac-now.Ac),hv0,by omega,fun T k1 k2 k3 k4=> ?_⟩
 unfold iD
 rw [k1,k2,k3,k4,gy,Option.bind_some,ed,Option.bind_some,Option.bind_some]
 have hd:Ky f (IntKind.wrap .i64 (y.Ac-now.Ac))=some (f / (y.Ac-now.Ac)):=by
  rw [wrap64 (by omega) (by omega)]
  simp only [Ky,if_neg (show ¬y.Ac-now.Ac=0 by omega)]
  rw [Int.tdiv_eq_ediv_of_nonneg f0]
 show (Ky f _).bind _=_
 rw [hd,Option.bind_some,wrap64 (by omega) (by omega)]
def kh (x:Ab):Int×Int×Int×Int:=(x.Ac,x.Af,x.Aw,x.Bi)
theorem dX (n:Nat) (hn:300<n) {l:List Ab} (hl:Cg l) (c:Ae) {now:Ab} {t:Int} (hnow:Hl now) (ht:now.Ac=t) (k:Dg) (fix:TP) (hne:Fy l t≠[]):
  ∃r:List Ab×Int,pK n (Et l c t now k fix)=some r∧(r.2≠0∨(r.2=0∧r.1.map kh=(Fy l t).map kh∧∀x∈r.1,T9 ⟨x.Ak,x.Aj⟩)):=by
 obtain ⟨v,-,-,hv⟩:=Wv n (by omega) hl hnow ht hne
 have hll:=Zq l t
 have hlen:=hl.len
 unfold pK
 have hlat:(Et l c t now k fix).later=Fy l t:=rfl
 rw [hlat,Fk (by omega) (by omega),Option.bind_some]
 refine Ei (S:=fun y:Int×List Ab=>Pm n (0) ((Fy l t).length:Int) (Et l c t now k fix).Av (Et l c t now k fix).Aq (Et l c t now k fix).Am (Et l c t now k fix).Ay (Et l c t now k fix).before (Et l c t now k fix).later (Et l c t now k fix).Ap (Et l c t now k fix).A6 (Et l c t now k fix).A5 (Et l c t now k fix).Au (Et l c t now k fix).Bj (Et l c t now k fix).B9 (Et l c t now k fix).B2 (Et l c t now k fix).B1 (Et l c t now k fix).Bc (Et l c t now k fix).Bp (Et l c t now k fix).Bb (Et l c t now k fix).Bu (Et l c t now k fix).Bt (Et l c t now k fix).Dj (Et l c t now k fix).Dp (Et l c t now k fix).whole y.1 y.2)
  (fun y=>∃(D R:List Ab),y=((D.length:Int),D++R)∧(D++R).map kh=(Fy l t).map kh∧∀x∈D,T9 ⟨x.Ak,x.Aj⟩) _ (fun y=>(Fy l t).length-y.1.toNat) ?_ n _ ⟨[],Fy l t,rfl,rfl,fun x hx=>by cases hx⟩ (by show (Fy l t).length-(0:Int).toNat<n;omega)
 rintro _ ⟨D,R,rfl,hmap,hpos⟩
 have hDR:D.length+R.length=(Fy l t).length:=by
  have:=congrArg List.length hmap
  simpa using this
 show (∃y,Pm n (0) ((Fy l t).length:Int) (Et l c t now k fix).Av (Et l c t now k fix).Aq (Et l c t now k fix).Am (Et l c t now k fix).Ay (Et l c t now k fix).before (Et l c t now k fix).later (Et l c t now k fix).Ap (Et l c t now k fix).A6 (Et l c t now k fix).A5 (Et l c t now k fix).Au (Et l c t now k fix).Bj (Et l c t now k fix).B9 (Et l c t now k fix).B2 (Et l c t now k fix).B1 (Et l c t now k fix).Bc (Et l c t now k fix).Bp (Et l c t now k fix).Bb (Et l c t now k fix).Bu (Et l c t now k fix).Bt (Et l c t now k fix).Dj (Et l c t now k fix).Dp (Et l c t now k fix).whole (D.length:Int) (D++R)=some (.inl y)∧_)∨∃r,Pm n (0) ((Fy l t).length:Int) (Et l c t now k fix).Av (Et l c t now k fix).Aq (Et l c t now k fix).Am (Et l c t now k fix).Ay (Et l c t now k fix).before (Et l c t now k fix).later (Et l c t now k fix).Ap (Et l c t now k fix).A6 (Et l c t now k fix).A5 (Et l c t now k fix).Au (Et l c t now k fix).Bj (Et l c t now k fix).B9 (Et l c t now k fix).B2 (Et l c t now k fix).B1 (Et l c t now k fix).Bc (Et l c t now k fix).Bp (Et l c t now k fix).Bb (Et l c t now k fix).Bu (Et l c t now k fix).Bt (Et l c t now k fix).Dj (Et l c t now k fix).Dp (Et l c t now k fix).whole (D.length:Int) (D++R)=some (.inr r)∧_
 unfold Pm
 cases R with
 |nil=>
  right
  rw [List.length_nil] at hDR
  rw [decide_eq_false (show ¬(D.length:Int)<_ by omega),cond_false,List.append_nil]
  rw [List.append_nil] at hmap
  exact ⟨_,rfl,.inr ⟨rfl,hmap,hpos⟩⟩
 |cons x R=>
  rw [List.length_cons] at hDR
  have gx:(D++x::R)[D.length]?=some x:=by simp
  rw [decide_eq_true (show (D.length:Int)<_ by omega),cond_true,hv _ rfl rfl rfl rfl,Option.bind_some,Bl gx,Option.bind_some]
  obtain ⟨r,hr⟩:=hG n (Et l c t now k fix).Am (IntKind.wrap .i64 (v*IntKind.wrap .i64 (x.Ac-(Et l c t now k fix).Ap)))
  rw [hr,Option.bind_some]
  by_cases c1:r.2=0
  rotate_left
  ·rw [bne_iff_ne.2 c1,cond_true];exact .inr ⟨_,rfl,.inl c1⟩
  rw [c1,show ((0:Int) !=0)=false from rfl,cond_false]
  obtain ⟨q,hq⟩:∃q,yL n (⟨(Et l c t now k fix).A6,(Et l c t now k fix).A5⟩:TP) r.1=some q:=⟨_,rfl⟩
  rw [hq,Option.bind_some,Option.bind_some,Int.toNat_natCast]
  generalize hy:(⟨x.Ac,q.X,q.Y,x.Af,x.Aw,x.Bi⟩:Ab)=y at*
  have hset:(D++x::R).set D.length y=(D++[y])++R:=by
   rw [List.set_append_right _ _ (Nat.le_refl _)];simp
  have gs:((D++[y])++R)[D.length]?=some y:=by simp
  rw [hset,Bl gs,Option.bind_some]
  have ky:kh y=kh x:=by rw [← hy];rfl
  have dec:(Fy l t).length-((D.length+1:Nat):Int).toNat<(Fy l t).length-(D.length:Int).toNat:=by omega
  rcases Jt n ⟨y.Ak,y.Aj⟩ with ⟨e,hP⟩|⟨e,-⟩
  ·rw [e,Option.bind_some,show ((0:Int) !=0)=false from rfl,cond_false,wS (by omega)]
   refine .inl ⟨_,rfl,⟨D++[y],R,by simp,?_,fun z hz=> ?_⟩,dec⟩
   ·rw [← hmap]
    simp only [List.map_append,List.map_cons,List.map_nil,ky,List.append_assoc,List.cons_append,List.nil_append]
   ·rcases List.mem_append.1 hz with q'|q'
    ·exact hpos z q'
    ·rw [List.mem_singleton.1 q'];exact hP
  ·rw [e]
   exact .inr ⟨_,rfl,.inl (by decide)⟩
theorem eR {l D:List Ab} {t:Int} (hl:Cg l) (hk:D.map kh=(Fy l t).map kh) (hp:∀x∈D,T9 ⟨x.Ak,x.Aj⟩):dL t D:=by
 have hL:=Aay hl t
 have back:∀x∈D,∃y∈Fy l t,kh y=kh x:=fun x hx=>by
  have:kh x∈(Fy l t).map kh:=by rw [← hk];exact List.mem_map.2 ⟨x,hx,rfl⟩
  exact List.mem_map.1 this
 have ktime:∀L:List Ab,L.map Ab.Ac=(L.map kh).map Prod.fst:=fun L=>by rw [List.map_map];rfl
 refine ⟨?_,fun x hx=> ?_,fun x hx=> ?_⟩
 ·have h1:(D.map Ab.Ac).Pairwise (·<·):=by
   rw [ktime,hk,← ktime,List.pairwise_map];exact hL.pT
  exact List.pairwise_map.1 h1
 ·obtain ⟨y,hy,e⟩:=back x hx
  obtain ⟨c1,c2,c3,c4,c5,c6,c7,c8,c9⟩:=hL.nodes y hy
  have e1:y.Ac=x.Ac:=congrArg Prod.fst e
  have e2:y.Af=x.Af:=congrArg (fun p=>p.2.1) e
  have e3:y.Aw=x.Aw:=congrArg (fun p=>p.2.2.1) e
  have e4:y.Bi=x.Bi:=congrArg (fun p=>p.2.2.2) e
  exact ⟨by omega,by omega,hp x hx,by omega,by omega,by omega,by omega,by omega,by omega⟩
 ·obtain ⟨y,hy,e⟩:=back x hx
  have e1:y.Ac=x.Ac:=congrArg Prod.fst e
  have:=hL.after y hy
  omega
end Go.Proofs.YtkdodbfnocdkdaaGreatDoor
set_option linter.unusedVariables false
set_option linter.unusedSimpArgs false
set_option maxHeartbeats 4000000
namespace Go.Proofs.YtkdodbfnocdkdaaGreatDoor
theorem Ye {n:Nat} {v:Int}:∀(D:List Ab) (p:Ab),Mj n v p D→fB D∧∀x∈D,p.Ac<x.Ac∧x.Ac≤200000
 |[],p,_=>⟨List.Pairwise.nil,fun x hx=>by cases hx⟩
 |y::D,p,h=>by
  obtain ⟨h1,h2⟩:=h
  obtain ⟨s,a⟩:=Ye D y h2
  refine ⟨List.pairwise_cons.2 ⟨fun x hx=>(a x hx).1,s⟩,fun x hx=> ?_⟩
  rcases List.mem_cons.1 hx with rfl|q
  ·exact ⟨h1.1,h1.2.1⟩
  ·have:=a x q
   have:=h1.1
   omega
theorem Aao {n:Nat} {v:Int} {l D:List Ab} {now:Ab} {t:Int} (hl:Cg l) (hnow:Hl now) (ht:now.Ac=t) (hk:D.map kq=(Fy l t).map kq) (hc:Mj n v now D):dL t D:=by
 obtain ⟨s,a⟩:=Ye D now hc
 have hL:=Aay hl t
 refine ⟨s,fun x hx=> ?_,fun x hx=>by have:=(a x hx).1;omega⟩
 have:kq x∈(Fy l t).map kq:=by rw [← hk];exact List.mem_map.2 ⟨x,hx,rfl⟩
 obtain ⟨y,hy,e⟩:=List.mem_map.1 this
 obtain ⟨c1,c2,c3,c4,c5,c6,c7,c8,c9⟩:=hL.nodes y hy
 have e1:Sp y=Sp x:=congrArg Prod.fst e
 have e2:y.Af=x.Af:=congrArg (fun p=>p.2.1) e
 have e3:y.Aw=x.Aw:=congrArg (fun p=>p.2.2.1) e
 have e4:y.Bi=x.Bi:=congrArg (fun p=>p.2.2.2) e
 have a1:=a x hx
 have n1:=hnow.1
 have c3':T9 (Sp x):=by rw [← e1];exact c3
 exact ⟨by omega,by omega,c3',by omega,by omega,by omega,by omega,by omega,by omega⟩
def gM (l:List Ab) (t:Int) (now:Ab) (r:List Ab×Bool×Int):Prop:=
 r.2.2≠0∨(r.2.2=0∧(r.2.1=true∨(r.2.1=false∧r.1.length≤66∧(∀x∈r.1,t<x.Ac)∧((Ri l t++now::r.1).length≤64→Cg (Ri l t++now::r.1)))))
theorem gM.Zh {l W:List Ab} {t:Int} {now:Ab} (hl:Cg l) (hnow:Hl now) (ht:now.Ac=t) (hW:dL t W) (hlen:W.length≤66):gM l t now (W,false,0):=
 .inr ⟨rfl,.inr ⟨rfl,hlen,hW.after,fun h=>Abr hl hnow ht hW h⟩⟩
theorem fV (n:Nat) (hn:200200<n) (l:List Ab) (ok:Cg l) (ec:Kg n l=some 0) (c:Ae) (t:Int) (now:Ab) (k:Dg) (fix:TP) (hfix:T9 fix) (hk:o9 n k=some 0) (e4:S0 n l t=some (now,0)) (hnow:Hl now) (ht:now.Ac=t):
  ∃r,g61 n (Et l c t now k fix)=some r∧gM l t now r:=by
 have hll:=Zq l t
 have hlen:=ok.len
 have n0:=hnow.1
 have n1:=hnow.2.1
 unfold g61
 have kK:(Et l c t now k fix).Aq=c.Kind:=rfl
 have kL:(Et l c t now k fix).later=Fy l t:=rfl
 rw [kK,kL]
 by_cases k0:c.Kind=0
 ·rw [show (c.Kind==0)=true from beq_iff_eq.2 k0,cond_true]
  obtain ⟨⟨N,q⟩,e15,hcl⟩:=dQ n (by omega) k now.Af c.Value
  by_cases hq:q=0
  case neg=>
   have h42:Tv n (Et l c t now k fix)=some ([],q):=by
    unfold Tv
    show (aM n k now.Af c.Value).bind _=_
    rw [e15,Option.bind_some]
    simp only [bne_iff_ne.2 hq,cond_true]
   rw [h42,Option.bind_some]
   exact ⟨_,rfl,.inl hq⟩
  subst hq
  obtain ⟨M,hM,hML,h42⟩:=iQ n hn l ok ec c t now k fix ht (by omega) N (hcl rfl) e15 e4
  rw [h42,Option.bind_some]
  refine ⟨_,rfl,.inr ⟨rfl,.inr ⟨rfl,by show (M.map _).length≤66;rw [List.length_map];omega,fun x hx=> ?_,fun h=>Arh ok hnow ht hM (hcl rfl) h⟩⟩⟩
  obtain ⟨y,hy,rfl⟩:=List.mem_map.1 hx
  rw [lB]
  exact hM.after y hy
 rw [show (c.Kind==0)=false from beq_eq_false_iff_ne.2 k0,cond_false]
 by_cases hla:Fy l t=[]
 ·rw [hla]
  exact ⟨_,rfl,.inr ⟨rfl,.inl rfl⟩⟩
 have hlp:(Fy l t).length≠0:=fun h=>hla (List.eq_nil_of_length_eq_zero h)
 rw [show (((Fy l t).length:Int)==0)=false from beq_eq_false_iff_ne.2 (by omega),cond_false]
 by_cases k1:c.Kind=1
 ·rw [show (c.Kind==1)=true from beq_iff_eq.2 k1,cond_true]
  obtain ⟨r,hr,h⟩:=dX n (by omega) ok c hnow ht k fix hla
  rw [hr,Option.bind_some]
  refine ⟨_,rfl,?_⟩
  rcases h with h|⟨h1,h2,h3⟩
  ·exact .inl h
  ·rw [h1]
   refine gM.Zh ok hnow ht (eR ok h2 h3) ?_
   have:=congrArg List.length h2
   rw [List.length_map,List.length_map] at this
   omega
 rw [show (c.Kind==1)=false from beq_eq_false_iff_ne.2 k1,cond_false]
 by_cases k2:c.Kind=2
 ·rw [show (c.Kind==2)=true from beq_iff_eq.2 k2,cond_true]
  obtain ⟨z2,hz2,hkb⟩:=Ov n (by omega) k
  rw [hk] at hz2
  cases hz2
  obtain ⟨-,-,-,-,k5,k6,-,-⟩:=hkb rfl
  unfold u7
  have kV:(Et l c t now k fix).Am=c.Value:=rfl
  have kS:(Et l c t now k fix).Bu=k.Eg:=rfl
  have kF:(Et l c t now k fix).Bt=k.Eh:=rfl
  by_cases h1:c.Value<k.Eg
  ·rw [kV,kS,decide_eq_true h1,cond_true];exact ⟨_,rfl,.inl (by decide)⟩
  by_cases h2:c.Value>k.Eh
  ·rw [kV,kS,kF,decide_eq_false h1,cond_false,decide_eq_true h2,cond_true];exact ⟨_,rfl,.inl (by decide)⟩
  have hloop:=Xn n (by omega) (Et l c t now k fix) (Fy l t).length (by omega) now ⟨by show 1≤c.Value;omega,by show c.Value≤400;omega⟩ (Fy l t) [] n (fun x hx=>ok.nodes x (I9.1 hx).1) trivial hnow.2.2.1 n0 n1 (by simp) (by omega)
  rw [show decide ((Et l c t now k fix).Am<(Et l c t now k fix).Bu)=false from decide_eq_false h1,show decide ((Et l c t now k fix).Am>(Et l c t now k fix).Bt)=false from decide_eq_false h2,cond_false,cond_false,kL,Fk (by omega) (by omega),Option.bind_some]
  rcases hloop with hloop|⟨R',m1,m2,hloop⟩
  ·refine ⟨([],false,12),?_,.inl (by show (12:Int)≠0;decide)⟩
   exact (congrArg (fun o=>Option.bind o fun x:List Ab×Int=>some (x.1,false,x.2)) hloop).trans rfl
  ·refine ⟨(R',false,0),?_,gM.Zh ok hnow ht (Aao ok hnow ht m1 m2) ?_⟩
   ·exact (congrArg (fun o=>Option.bind o fun x:List Ab×Int=>some (x.1,false,x.2)) hloop).trans rfl
   ·have:=congrArg List.length m1
    rw [List.length_map,List.length_map] at this
    omega
 rw [show (c.Kind==2)=false from beq_eq_false_iff_ne.2 k2,cond_false]
 by_cases k3:c.Kind=3
 ·rw [show (c.Kind==3)=true from beq_iff_eq.2 k3,cond_true]
  obtain ⟨v,v0,v1,hv⟩:=Wv n (by omega) ok hnow ht hla
  unfold wW
  rw [hv _ rfl rfl rfl rfl,Option.bind_some]
  by_cases hv0:v=0
  ·rw [show (v==0)=true from beq_iff_eq.2 hv0,cond_true];exact ⟨_,rfl,.inl (by show (10:Int)≠0;decide)⟩
  rw [show (v==0)=false from beq_eq_false_iff_ne.2 hv0,cond_false]
  obtain ⟨f',c',ed',g0,g1,g2,g3,g4⟩:=Q9 n (by omega) (⟨now.Ak,now.Aj⟩:TP) fix hnow.2.2.1 hfix
  have ed2:Mf n (⟨(Et l c t now k fix).A6,(Et l c t now k fix).A5⟩:TP) (⟨(Et l c t now k fix).Dj,(Et l c t now k fix).Dp⟩:TP)=some (f',c'):=ed'
  rw [ed2,Option.bind_some]
  show ∃r,((bif (c'==0) then some (([]:List Ab),(0:Int)) else (Me n c' v).bind fun x=>bif (decide ((IntKind.wrap .i64 (now.Ac+x.1))>(200000))) then some ([],12) else some (([(⟨(IntKind.wrap .i64 (now.Ac+x.1)),fix.X,fix.Y,now.Af,now.Aw,now.Bi⟩:Ab)]:List Ab),0)).bind fun x:List Ab×Int=>some (x.1,false,x.2))=some r∧_
  by_cases hc0:c'=0
  ·rw [show (c'==0)=true from beq_iff_eq.2 hc0,cond_true]
   exact ⟨_,rfl,gM.Zh ok hnow ht ⟨List.Pairwise.nil,fun x hx=>(by cases hx),fun x hx=>(by cases hx)⟩ (by simp)⟩
  rw [show (c'==0)=false from beq_eq_false_iff_ne.2 hc0,cond_false]
  obtain ⟨q,hq,q0,q1,q2⟩:=Yt n c' v (by omega) (by omega) (by omega)
  rw [hq,Option.bind_some,wrap64 (z:=now.Ac+q) (by omega) (by omega)]
  by_cases hbig:now.Ac+q>200000
  ·rw [decide_eq_true hbig,cond_true];exact ⟨_,rfl,.inl (by show (12:Int)≠0;decide)⟩
  rw [decide_eq_false hbig,cond_false]
  have hq1:1≤q:=by
   refine Decidable.byContradiction fun h=> ?_
   have:q=0:=by omega
   rw [this,Int.zero_mul] at q2
   omega
  obtain ⟨c1,c2,c3,c4,c5,c6,c7,c8,c9⟩:=hnow
  refine ⟨_,rfl,gM.Zh ok ⟨c1,c2,c3,c4,c5,c6,c7,c8,c9⟩ ht ⟨List.pairwise_cons.2 ⟨fun x hx=>(by cases hx),List.Pairwise.nil⟩,fun x hx=> ?_,fun x hx=> ?_⟩ (by simp)⟩
  ·rw [List.mem_singleton.1 hx]
   exact ⟨by show 0≤now.Ac+q;omega,by show now.Ac+q≤200000;omega,hfix,c4,c5,c6,c7,c8,c9⟩
  ·rw [List.mem_singleton.1 hx]
   show t<now.Ac+q
   omega
 rw [show (c.Kind==3)=false from beq_eq_false_iff_ne.2 k3,cond_false]
 exact ⟨_,rfl,.inr ⟨rfl,.inl rfl⟩⟩
end Go.Proofs.YtkdodbfnocdkdaaGreatDoor
set_option linter.unusedVariables false
set_option linter.unusedSimpArgs false
set_option maxHeartbeats 4000000
namespace Go.Proofs.YtkdodbfnocdkdaaGreatDoor
theorem As6 (n:Nat) (hn:64<n) (l:List Ab) (h:Cg l) (u:Int) (x0 x1:Ab) (h0:l[0]?=some x0) (h1:l[l.length-1]?=some x1) (ht0:x0.Ac≤u) (ht1:u≤x1.Ac):∃r,S0 n l u=some (r,0)∧AtF l u r:=by
 obtain ⟨r,e,k1,k2,k3⟩:=Ac4 n hn l h (fC n hn l h) u x0 x1 h0 h1 ht0 ht1
 exact ⟨r,e,k1,k2,k3⟩
end Go.Proofs.YtkdodbfnocdkdaaGreatDoor
