/- Parts Sf1, Sf5, Sf6, ScL, ScC. -/
import Derived.Test.YtlenkbgeomojnaaGreatDoorToA
import Derived.Test.YtlenkbgeomojnaaGreatDoorMath2
set_option linter.unusedVariables false
set_option linter.unusedSimpArgs false
namespace Go.Proofs.YtlenkbgeomojnaaGreatDoor
def NodeB (x:TTubeNode):Prop:=0≤x.Node_Time∧x.Node_Time≤200000∧POk ⟨x.Node_At_X,x.Node_At_Y⟩∧0≤x.Node_Height∧x.Node_Height≤60000∧0≤x.Radius∧x.Radius≤1000000∧0≤x.Band∧x.Band≤60000
structure TubeOk (l:List TTubeNode):Prop where
 pos:1≤l.length
 len:l.length≤64
 nodes:∀x∈l,NodeB x
 inc:∀(i:Nat) (x y:TTubeNode),l[i]?=some x→l[i+1]?=some y→x.Node_Time<y.Node_Time
theorem check_tail (n:Nat) (x:TTubeNode) (w:Int) (h0:¬x.Node_Time<0) (h1:¬x.Node_Time>200000) {s:Int⊕Int} (hs:((g70 n (⟨x.Node_At_X,x.Node_At_Y⟩:TP)).bind fun x6=>
bif (x6 !=(0)) then (
some (.inr (x6))) else (
bif (decide (x.Node_Height<(0))) then (
some (.inr (4))) else (
bif (decide (x.Node_Height>(60000))) then (
some (.inr (4))) else (
bif (decide (x.Radius<(0))) then (
some (.inr (4))) else (
bif (decide (x.Radius>(1000000))) then (
some (.inr (4))) else (
bif (decide (x.Band<(0))) then (
some (.inr (4))) else (
bif (decide (x.Band>(60000))) then (
some (.inr (4))) else (
some (.inl w)))))))))=some s):(s=.inl w∧NodeB x)∨∃r,s=.inr r∧r≠0:=by
 rcases pcheck n ⟨x.Node_At_X,x.Node_At_Y⟩ with ⟨e,hp⟩|⟨e,hp⟩
 ·rw [e,Option.bind_some,show ((0:Int) !=0)=false from rfl,cond_false] at hs
  simp only [cond_eq_ite,decide_eq_true_eq] at hs
  repeat' split at hs
  all_goals cases hs
  all_goals first|(right;exact ⟨_,rfl,by decide⟩)|(left;exact ⟨rfl,by omega,by omega,hp,by omega,by omega,by omega,by omega,by omega,by omega⟩)
 ·rw [e,Option.bind_some,show ((4:Int) !=0)=true from rfl,cond_true] at hs
  cases hs
  exact .inr ⟨_,rfl,by decide⟩
theorem check_step (n:Nat) (l:List TTubeNode) (hl:l.length≤64) (i:Nat) (x:TTubeNode) (hx:l[i]?=some x):
  (S36_0 n l 0 (l.length:Int) (i:Int)=some (.inl ((i+1:Nat):Int))∧NodeB x∧∀y,0<i→l[i-1]?=some y→y.Node_Time<x.Node_Time)∨∃r,S36_0 n l 0 (l.length:Int) (i:Int)=some (.inr r)∧r≠0:=by
 have hlt:=some_lt hx
 unfold S36_0
 rw [decide_eq_true (show (i:Int)<(l.length:Int) by omega),getI_at hx,cond_true,Option.bind_some,wS (show i<9223372036854775807 by omega)]
 by_cases a1:x.Node_Time<0
 ·rw [decide_eq_true a1,cond_true];exact .inr ⟨12,rfl,by decide⟩
 rw [decide_eq_false a1,cond_false]
 by_cases a2:x.Node_Time>200000
 ·rw [decide_eq_true a2,cond_true];exact .inr ⟨12,rfl,by decide⟩
 rw [decide_eq_false a2,cond_false]
 have fin:∀s:Option (Int⊕Int),(∀q,s=some q→(q=.inl ((i+1:Nat):Int)∧NodeB x)∨∃r,q=.inr r∧r≠0)→s≠none→(∀y,0<i→l[i-1]?=some y→y.Node_Time<x.Node_Time)→(s=some (.inl ((i+1:Nat):Int))∧NodeB x∧∀y,0<i→l[i-1]?=some y→y.Node_Time<x.Node_Time)∨∃r,s=some (.inr r)∧r≠0:=by
  intro s h1 h2 h3
  cases s with
  |none=>exact absurd rfl h2
  |some q=>
   rcases h1 q rfl with ⟨rfl,h⟩|⟨r,rfl,h⟩
   ·exact .inl ⟨rfl,h,h3⟩
   ·exact .inr ⟨r,rfl,h⟩
 have nn:∀(w:Int),((g70 n (⟨x.Node_At_X,x.Node_At_Y⟩:TP)).bind fun x6=>
bif (x6 !=(0)) then (
some (Sum.inr (x6))) else (
bif (decide (x.Node_Height<(0))) then (
some (.inr (4))) else (
bif (decide (x.Node_Height>(60000))) then (
some (.inr (4))) else (
bif (decide (x.Radius<(0))) then (
some (.inr (4))) else (
bif (decide (x.Radius>(1000000))) then (
some (.inr (4))) else (
bif (decide (x.Band<(0))) then (
some (.inr (4))) else (
bif (decide (x.Band>(60000))) then (
some (.inr (4))) else (
some (.inl w)))))))))≠none:=by
  intro w
  rcases pcheck n ⟨x.Node_At_X,x.Node_At_Y⟩ with ⟨e,-⟩|⟨e,-⟩
  ·rw [e,Option.bind_some,show ((0:Int) !=0)=false from rfl]
   simp only [cond_false,cond_eq_ite]
   repeat' split
   all_goals exact fun h=>by cases h
  ·rw [e,Option.bind_some,show ((4:Int) !=0)=true from rfl,cond_true]
   exact fun h=>by cases h
 rcases i with _|j
 ·rw [show decide (((0:Nat):Int)>0)=false from rfl,cond_false]
  exact fin _ (fun q hq=>check_tail n x _ a1 a2 hq) (nn _) (fun y h=>absurd h (Nat.lt_irrefl 0))
 ·have hj:j<l.length:=by omega
  have hy:l[j]?=some l[j]:=List.getElem?_eq_getElem hj
  have hwj:IntKind.wrap .i64 (((j+1:Nat):Int)-1)=(j:Int):=by rw [wrap64 (by omega) (by omega)];omega
  rw [decide_eq_true (show ((j+1:Nat):Int)>0 by omega),cond_true,hwj,getI_at hy,Option.bind_some]
  by_cases a3:x.Node_Time≤l[j].Node_Time
  ·rw [decide_eq_true a3,cond_true];exact .inr ⟨12,rfl,by decide⟩
  rw [decide_eq_false a3,cond_false]
  exact fin _ (fun q hq=>check_tail n x _ a1 a2 hq) (nn _) (fun y _ h=>by rw [Nat.add_sub_cancel,hy] at h;cases h;omega)
theorem check_tot (n:Nat) (hn:64<n) (l:List TTubeNode):(g36 n l=some 0∧TubeOk l)∨∃z,z≠0∧g36 n l=some z:=by
 unfold g36
 by_cases h1:(l.length:Int)>64
 ·right;exact ⟨2,by decide,by rw [decide_eq_true h1];rfl⟩
 rw [decide_eq_false h1,cond_false]
 by_cases h2:(l.length:Int)=0
 ·right;exact ⟨3,by decide,by rw [h2];rfl⟩
 rw [show ((l.length:Int)==0)=false from beq_eq_false_iff_ne.2 h2,cond_false]
 obtain ⟨r,hr,h⟩:=iter_each (S:=fun y:Int=>S36_0 n l 0 (l.length:Int) y) l (fun i x=>NodeB x∧∀y,0<i→l[i-1]?=some y→y.Node_Time<x.Node_Time) (fun r=>r≠0) 0 (fun i x hx=>check_step n l (by omega) i x hx) (by
  unfold S36_0
  rw [decide_eq_false (Int.lt_irrefl _)];rfl) n (by omega)
 rcases h with h|⟨rfl,h⟩
 ·right;exact ⟨r,h,hr⟩
 ·left
  refine ⟨hr,by omega,by omega,fun x hx=> ?_,fun i x y hx hy=>(h (i+1) y hy).2 x (Nat.succ_pos i) hx⟩
  obtain ⟨i,hi⟩:=List.getElem?_of_mem hx
  exact (h i x hi).1
/- times grow -/
theorem TubeOk.lt {l:List TTubeNode} (h:TubeOk l):∀(d i:Nat) (x y:TTubeNode),l[i]?=some x→l[i+d+1]?=some y→x.Node_Time<y.Node_Time
 |0,i,x,y,hx,hy=>h.inc i x y hx hy
 |d+1,i,x,y,hx,hy=>by
  have:=some_lt hy
  have hz:l[i+d+1]?=some l[i+d+1]:=List.getElem?_eq_getElem (by omega)
  have h1:=TubeOk.lt h d i x _ hx hz
  have h2:=h.inc (i+d+1) _ y hz hy
  omega
theorem TubeOk.lt' {l:List TTubeNode} (h:TubeOk l) {i j:Nat} {x y:TTubeNode} (hij:i<j) (hx:l[i]?=some x) (hy:l[j]?=some y):x.Node_Time<y.Node_Time:=
 h.lt (j-i-1) i x y hx (by rw [show i+(j-i-1)+1=j by omega];exact hy)
theorem TubeOk.le' {l:List TTubeNode} (h:TubeOk l) {i j:Nat} {x y:TTubeNode} (hij:i≤j) (hx:l[i]?=some x) (hy:l[j]?=some y):x.Node_Time≤y.Node_Time:=by
 rcases Nat.eq_or_lt_of_le hij with rfl|h'
 ·rw [hx] at hy;cases hy;exact Int.le_refl _
 ·exact Int.le_of_lt (h.lt' h' hx hy)
/- the search -/
theorem half {a b:Nat} (h:a+b<2000):IntKind.wrap .i64 (Int.fdiv (IntKind.wrap .u64 (IntKind.wrap .i64 ((a:Int)+(b:Int)))) 2)=(((a+b) / 2:Nat):Int):=by
 rw [wrap64 (z:=(a:Int)+(b:Int)) (by omega) (by omega)]
 have e:IntKind.wrap .u64 ((a:Int)+(b:Int))=(a:Int)+(b:Int):=IntWalk.u64_in _ (by omega)
 rw [e,Int.fdiv_eq_ediv_of_nonneg _ (by decide),wrap64 (by omega) (by omega)]
 omega
theorem search_eq (n:Nat) (hn:64<n) (l:List TTubeNode) (h:TubeOk l) (t:Int) (ht: -1000000≤t∧t≤1000000):
  ∃i:Nat,i≤l.length∧(∀j x,j<i→l[j]?=some x→x.Node_Time<t)∧(∀j x,i≤j→l[j]?=some x→t≤x.Node_Time)∧∃b,g204 n l t=some ((i:Int),b)∧(b=true↔∃x,l[i]?=some x∧x.Node_Time=t):=by
 have hlen:=h.len
 have cmp:∀x∈l,g205 n x t=some (x.Node_Time-t):=fun x hx=>by
  have:=(h.nodes x hx)
  unfold g205
  rw [wrap64 (by have:=this.1;omega) (by have:=this.2.1;omega)]
 obtain ⟨r,hr,i,hi,h1,h2,h3,h4⟩:=iterO_rule (S:=fun y:Int×Int=>S204_0 n l t 0 false (l.length:Int) y.1 y.2)
  (fun z=>∃a b:Nat,z=((a:Int),(b:Int))∧a≤b∧b≤l.length∧(∀j x,j<a→l[j]?=some x→x.Node_Time<t)∧∀j x,b≤j→l[j]?=some x→t≤x.Node_Time)
  (fun r=>∃i:Nat,i≤l.length∧(∀j x,j<i→l[j]?=some x→x.Node_Time<t)∧(∀j x,i≤j→l[j]?=some x→t≤x.Node_Time)∧r.1=(i:Int)∧(r.2=true↔∃x,l[i]?=some x∧x.Node_Time=t))
  (fun z=>(z.2-z.1).toNat) (by
   rintro _ ⟨a,b,rfl,hab,hb,hlo,hhi⟩
   simp only []
   unfold S204_0
   rcases Nat.eq_or_lt_of_le hab with rfl|hlt
   ·right
    rw [decide_eq_false (show ¬(a:Int)<(a:Int) from Int.lt_irrefl _),cond_false]
    rcases Nat.lt_or_ge a l.length with hal|hal
    ·have hx:l[a]?=some l[a]:=List.getElem?_eq_getElem hal
     have hz:=h.nodes _ (List.getElem_mem hal)
     rw [decide_eq_true (show (a:Int)<(l.length:Int) by omega),cond_true,getI_at hx,Option.bind_some,cmp _ (List.getElem_mem hal),Option.bind_some]
     refine ⟨_,rfl,a,by omega,hlo,hhi,rfl,?_⟩
     show ((l[a].Node_Time-t==0)=true)↔_
     rw [beq_iff_eq]
     exact ⟨fun e=>⟨_,hx,by omega⟩,fun ⟨x,e,e2⟩=>by rw [hx] at e;cases e;omega⟩
    ·rw [decide_eq_false (show ¬(a:Int)<(l.length:Int) by omega),cond_false]
     refine ⟨_,rfl,a,by omega,hlo,hhi,rfl,?_⟩
     show (false=true)↔_
     simp only [Bool.false_eq_true,false_iff]
     rintro ⟨x,e,-⟩
     have:=some_lt e;omega
   ·left
    rw [decide_eq_true (show (a:Int)<(b:Int) by omega),cond_true,half (by omega)]
    have hm:(a+b) / 2<l.length:=by omega
    have hx:l[(a+b) / 2]?=some l[(a+b) / 2]:=List.getElem?_eq_getElem hm
    rw [getI_at hx,Option.bind_some,cmp _ (List.getElem_mem hm),Option.bind_some]
    by_cases hc:l[(a+b) / 2].Node_Time-t<0
    ·rw [decide_eq_true hc,cond_true,wS (by omega)]
     refine ⟨_,rfl,⟨(a+b) / 2+1,b,rfl,by omega,hb,fun j x hj hxj=> ?_,hhi⟩,by simp only [];omega⟩
     have:=h.le' (show j≤(a+b) / 2 by omega) hxj hx
     omega
    ·rw [decide_eq_false hc,cond_false]
     refine ⟨_,rfl,⟨a,(a+b) / 2,rfl,by omega,by omega,hlo,fun j x hj hxj=> ?_⟩,by simp only [];omega⟩
     have:=h.le' hj hx hxj
     omega) n (0,(l.length:Int)) ⟨0,l.length,rfl,Nat.zero_le _,Nat.le_refl _,fun j x hj=>absurd hj (Nat.not_lt_zero _),fun j x hj hx=>absurd (some_lt hx) (Nat.not_lt_of_le hj)⟩ (by simp only [];omega)
 refine ⟨i,hi,h1,h2,r.2,?_,h4⟩
 unfold g204
 rw [hr,← h3]
/- division -/
theorem down_tot (n:Nat) (a b:Int):∃r,g207 n a b=some r∧(r.2=0→b≠0):=by
 unfold g207
 by_cases hb:b=0
 ·rw [show (b==0)=true from beq_iff_eq.2 hb,cond_true];exact ⟨_,rfl,fun h=>by cases h⟩
 rw [show (b==0)=false from beq_eq_false_iff_ne.2 hb,cond_false]
 have hd:divO a b=some (a.tdiv b):=by simp [divO,hb]
 have hm:modO a b=some (a.tmod b):=by simp [modO,hb]
 rw [hd,hm]
 simp only [Option.bind_some,cond_eq_ite]
 repeat' split
 all_goals exact ⟨_,rfl,fun _=>hb⟩
theorem up_tot (n:Nat) (a b:Int):∃r,g208 n a b=some r:=by
 unfold g208
 obtain ⟨r,hr,h0⟩:=down_tot n a b
 rw [hr,Option.bind_some]
 by_cases h:r.2=0
 ·have hb:=h0 h
  have hm:modO a b=some (a.tmod b):=by simp [modO,hb]
  rw [show (r.2==0)=true from beq_iff_eq.2 h,cond_true,hm,Option.bind_some]
  simp only [cond_eq_ite]
  split<;>exact ⟨_,rfl⟩
 ·rw [show (r.2==0)=false from beq_eq_false_iff_ne.2 h,cond_false];exact ⟨_,rfl⟩
theorem toward_tot (n:Nat) (a b:TP) (c d:Int):∃r,g206 n a b c d=some r:=by
 unfold g206
 simp only [cond_eq_ite]
 obtain ⟨r1,h1,-⟩:=down_tot n (IntKind.wrap .i64 ((IntKind.wrap .i64 (b.X-a.X))*c)) d
 obtain ⟨r2,h2,-⟩:=down_tot n (IntKind.wrap .i64 ((IntKind.wrap .i64 (b.Y-a.Y))*c)) d
 rw [h1,h2]
 rcases pcheck n a with ⟨e,-⟩|⟨e,-⟩<;>rw [e]<;>simp only [Option.bind_some]<;>rcases pcheck n b with ⟨e2,-⟩|⟨e2,-⟩<;>(try rw [e2])<;>simp only [Option.bind_some]<;>repeat' split
 all_goals exact ⟨_,rfl⟩
/- the node at a time -/
theorem at_tot (n:Nat) (hn:64<n) (l:List TTubeNode) (h:TubeOk l) (t:Int) (x0 x1:TTubeNode) (h0:l[0]?=some x0) (h1:l[l.length-1]?=some x1) (ht0:x0.Node_Time≤t) (ht1:t≤x1.Node_Time):∃r,g138 n l t=some r:=by
 have hp:=h.pos
 have b0:=h.nodes x0 (List.mem_of_getElem? h0)
 have b1:=h.nodes x1 (List.mem_of_getElem? h1)
 obtain ⟨i,hi,k1,k2,b,hb,hbt⟩:=search_eq n hn l h t (by have:=b0.1;have:=b1.2.1;omega)
 unfold g138
 rw [hb,Option.bind_some]
 cases b with
 |true=>
  obtain ⟨x,hx,-⟩:=hbt.1 rfl
  simp only [cond_true]
  rw [getI_at hx];exact ⟨_,rfl⟩
 |false=>
  simp only [cond_false]
  have hil:i<l.length:=by
   rcases Nat.lt_or_ge i l.length with h'|h'
   ·exact h'
   ·have:=k1 (l.length-1) x1 (by omega) h1;omega
  have hi0:0<i:=by
   rcases Nat.eq_zero_or_pos i with rfl|h'
   ·have:=k2 0 x0 (Nat.le_refl _) h0
    have:=hbt.2 ⟨x0,h0,by omega⟩
    cases this
   ·exact h'
  have ha:l[i-1]?=some l[i-1]:=List.getElem?_eq_getElem (by omega)
  have hb':l[i]?=some l[i]:=List.getElem?_eq_getElem hil
  have hw:IntKind.wrap .i64 ((i:Int)-1)=((i-1:Nat):Int):=by have:=h.len;rw [wrap64 (by omega) (by omega)];omega
  rw [hw,getI_at ha,getI_at hb']
  simp only [Option.bind_some]
  obtain ⟨q1,e1⟩:=toward_tot n (⟨l[i-1].Node_At_X,l[i-1].Node_At_Y⟩:TP) (⟨l[i].Node_At_X,l[i].Node_At_Y⟩:TP) (IntKind.wrap .i64 (t-l[i-1].Node_Time)) (IntKind.wrap .i64 (l[i].Node_Time-l[i-1].Node_Time))
  rw [e1,Option.bind_some]
  obtain ⟨q2,e2,-⟩:=down_tot n (IntKind.wrap .i64 ((IntKind.wrap .i64 (l[i].Node_Height-l[i-1].Node_Height))*(IntKind.wrap .i64 (t-l[i-1].Node_Time)))) (IntKind.wrap .i64 (l[i].Node_Time-l[i-1].Node_Time))
  rw [e2,Option.bind_some]
  obtain ⟨q3,e3⟩:=up_tot n (IntKind.wrap .i64 ((IntKind.wrap .i64 (l[i].Radius-l[i-1].Radius))*(IntKind.wrap .i64 (t-l[i-1].Node_Time)))) (IntKind.wrap .i64 (l[i].Node_Time-l[i-1].Node_Time))
  rw [e3,Option.bind_some]
  obtain ⟨q4,e4⟩:=up_tot n (IntKind.wrap .i64 ((IntKind.wrap .i64 (l[i].Band-l[i-1].Band))*(IntKind.wrap .i64 (t-l[i-1].Node_Time)))) (IntKind.wrap .i64 (l[i].Node_Time-l[i-1].Node_Time))
  rw [e4,Option.bind_some]
  exact ⟨_,rfl⟩
def zeroN:TTubeNode:=⟨0,0,0,0,0,0⟩
/- At of a valid tube: inside a node, outside error 12 -/
theorem At_cases (n:Nat) (hn:64<n) (l:List TTubeNode) (h:TubeOk l) (hc:g36 n l=some 0) (t:Int) (x0 x1:TTubeNode) (h0:l[0]?=some x0) (h1:l[l.length-1]?=some x1):
  (x0.Node_Time≤t∧t≤x1.Node_Time∧∃r,g138 n l t=some r∧g71 n l t=some (r,0))∨((t<x0.Node_Time∨x1.Node_Time<t)∧g71 n l t=some (zeroN,12)):=by
 have hp:=h.pos
 have hl:=h.len
 unfold g71 g137
 have hw:IntKind.wrap .i64 ((l.length:Int)-1)=((l.length-1:Nat):Int):=by rw [wrap64 (by omega) (by omega)];omega
 have g0:getI l 0=some x0:=getI_at (i:=0) h0
 rw [hc,Option.bind_some,show ((0:Int) !=0)=false from rfl,cond_false,hw,getI_at h1,g0]
 simp only [Option.bind_some]
 by_cases a1:t<x0.Node_Time
 ·rw [decide_eq_true a1,cond_true];exact .inr ⟨.inl a1,rfl⟩
 rw [decide_eq_false a1,cond_false]
 by_cases a2:t>x1.Node_Time
 ·rw [decide_eq_true a2,cond_true];exact .inr ⟨.inr a2,rfl⟩
 rw [decide_eq_false a2,cond_false]
 obtain ⟨r,hr⟩:=at_tot n hn l h t x0 x1 h0 h1 (by omega) (by omega)
 exact .inl ⟨by omega,by omega,r,hr,by rw [hr];rfl⟩
end Go.Proofs.YtlenkbgeomojnaaGreatDoor
set_option linter.unusedVariables false
set_option linter.unusedSimpArgs false
namespace Go.Proofs.YtlenkbgeomojnaaGreatDoor
/- rounding down between the ends -/
end Go.Proofs.YtlenkbgeomojnaaGreatDoor
set_option linter.unusedVariables false
set_option linter.unusedSimpArgs false
namespace Go.Proofs.YtlenkbgeomojnaaGreatDoor
end Go.Proofs.YtlenkbgeomojnaaGreatDoor
set_option linter.unusedVariables false
set_option linter.unusedSimpArgs false
namespace Go.Proofs.YtlenkbgeomojnaaGreatDoor
theorem load_check (n:Nat) (hn:4500<n) (l:List TSector) (ts:List (List TTubeNode)):∃z,g37 n l ts=some z∧(z=0→SecOk l∧ts.length≤24∧∀t∈ts,g36 n t=some 0∧TubeOk t):=by
 obtain ⟨z,hz,kz⟩:=sec_check n hn l
 unfold g37
 rw [hz,Option.bind_some]
 by_cases z0:z=0
 case neg=>rw [bne_iff_ne.2 z0,cond_true];exact ⟨z,rfl,fun h=>absurd h z0⟩
 rw [z0,show ((0:Int) !=0)=false from rfl,cond_false]
 by_cases hl:(ts.length:Int)>24
 ·rw [decide_eq_true hl,cond_true];exact ⟨2,rfl,fun h=>by cases h⟩
 rw [decide_eq_false hl,cond_false]
 obtain ⟨r,hr,hq⟩:=iter_each (S:=fun y:Int=>S37_0 n (0) ts (ts.length:Int) y) ts (fun _ t=>g36 n t=some 0∧TubeOk t) (fun r=>r≠0) 0 (fun i t ht=>by
  have:=some_lt ht
  show (S37_0 n (0) ts (ts.length:Int) (i:Int)=_∧_)∨∃r,S37_0 n (0) ts (ts.length:Int) (i:Int)=some (.inr r)∧r≠0
  unfold S37_0
  rw [decide_eq_true (show (i:Int)<_ by omega),cond_true,getI_at ht,Option.bind_some,wS (by omega)]
  rcases check_tot n (by omega) t with ⟨hc,htk⟩|⟨y,hy,hc⟩
  ·rw [hc];exact .inl ⟨rfl,rfl,htk⟩
  ·rw [hc,Option.bind_some,bne_iff_ne.2 hy];exact .inr ⟨y,rfl,hy⟩) (by
  show S37_0 n (0) ts (ts.length:Int) (ts.length:Int)=_
  unfold S37_0
  rw [decide_eq_false (Int.lt_irrefl _)];rfl) n (by omega)
 refine ⟨r,hr,fun h0=> ?_⟩
 rcases hq with k|⟨-,k⟩
 ·exact absurd h0 k
 ·refine ⟨kz z0,by omega,fun t ht=> ?_⟩
  obtain ⟨i,hi⟩:=List.getElem?_of_mem ht
  exact k i t hi
end Go.Proofs.YtlenkbgeomojnaaGreatDoor
set_option linter.unusedVariables false
set_option linter.unusedSimpArgs false
namespace Go.Proofs.YtlenkbgeomojnaaGreatDoor
theorem At_either (n:Nat) (hn:64<n) (t:List TTubeNode) (hc:g36 n t=some 0) (ht:TubeOk t) (u:Int):(∃r,g71 n t u=some (r,0))∨g71 n t u=some (zeroN,12):=by
 have hp:=ht.pos
 have h0:t[0]?=some t[0]:=List.getElem?_eq_getElem (by omega)
 have h1:t[t.length-1]?=some t[t.length-1]:=List.getElem?_eq_getElem (by omega)
 rcases At_cases n hn t ht hc u _ _ h0 h1 with ⟨-,-,r,-,e⟩|⟨-,e⟩
 ·exact .inl ⟨r,e⟩
 ·exact .inr e
def hit (n:Nat) (u:Int) (t:List TTubeNode):Bool:=match g71 n t u with|some r=>r.2==0|none=>false
theorem take_one {α:Type} {l:List α} {i:Nat} {x:α} (h:l[i]?=some x):l.take (i+1)=l.take i++[x]:=by rw [List.take_add_one,h];rfl
end Go.Proofs.YtlenkbgeomojnaaGreatDoor
