/- A part. -/
import Derived.Test.YtmechmjjcgdpdaaGreatDoorSortS
import Derived.Test.YtmechmjjcgdpdaaGreatDoorX1G
import Derived.Test.YtmechmjjcgdpdaaGreatDoorMath2
import Derived.Test.YtmechmjjcgdpdaaGreatDoorPT
set_option linter.unusedVariables false
set_option linter.unusedSimpArgs false
set_option maxHeartbeats 4000000
namespace Go.Proofs.YtmechmjjcgdpdaaGreatDoor
theorem str_inj {a b:ByteArray} (h:a.toList=b.toList):a=b:=by
 rw [ByteArray.toList_eq,ByteArray.toList_eq] at h
 exact ByteArray.ext (Array.toList_inj.1 h)
theorem P4 (n:Nat) (hn:16<n) (s:ByteArray):∃b,j7 n s=some b∧(b=true→1≤s.size):=by
 unfold j7
 by_cases h1:(s.size:Int)<1
 ·exact ⟨false,by simp [h1],fun h=>by cases h⟩
 by_cases h2:(s.size:Int)>8
 ·exact ⟨false,by simp [h1,h2],fun h=>by cases h⟩
 have hl:s.data.toList.length=s.size:=Array.length_toList
 rw [decide_eq_false h1,decide_eq_false h2,Hj (by omega) (by omega)]
 simp only [cond_false,Option.bind_some]
 obtain ⟨r,h,-⟩:=Cb (S:=fun y:Int=>I1 n false (s.data.toList) ((s.data.toList).length:Int) y) (fun x=>∃i:Nat,i≤s.data.toList.length∧x=(i:Int)) (fun _=>True) (fun x=>s.data.toList.length-x.toNat) (by
  rintro _ ⟨i,hi,rfl⟩
  rcases Nat.lt_or_ge i s.data.toList.length with hlt|hge
  ·have hx:=Bv (List.getElem?_eq_getElem hlt)
   have hw:=wS (i:=i) (by omega)
   have key:I1 n false (s.data.toList) ((s.data.toList).length:Int) (i:Int)=some (.inl (((i+1:Nat):Int)))∨∃r,I1 n false (s.data.toList) ((s.data.toList).length:Int) (i:Int)=some (.inr r):=by
    unfold I1
    rw [decide_eq_true (show (i:Int)<_ by omega),hx,hw]
    simp only [cond_true,Option.bind_some]
    repeat' (rw [Bool.cond_eq_ite];split)
    all_goals simp
   rcases key with k|⟨r,k⟩
   ·exact .inl ⟨_,k,⟨i+1,hlt,rfl⟩,by simp;omega⟩
   ·exact .inr ⟨r,k,trivial⟩
  ·have:i=s.data.toList.length:=by omega
   subst this
   refine .inr ⟨true,?_,trivial⟩
   unfold I1
   simp) n 0 ⟨0,Nat.zero_le _,rfl⟩ (by simp;omega)
 exact ⟨r,h,fun _=>by omega⟩
def has (L:List ByteArray) (s:ByteArray):Bool:=L.any fun x=>s.toList==x.toList
theorem Ib {L:List ByteArray} {s:ByteArray}:has L s=true↔s∈L:=by
 unfold has
 rw [List.any_eq_true]
 constructor
 ·rintro ⟨x,hx,e⟩
  rw [str_inj (beq_iff_eq.1 e)];exact hx
 ·exact fun h=>⟨s,h,by simp⟩
theorem Yz (n:Nat) (L:List ByteArray) (hL:L.length<n) (hL2:L.length≤1000) (s:ByteArray):g44 n L s=some (has L s):=by
 have e:g11 n L s=some (Dq (fun x:ByteArray=>s.toList==x.toList) L):=by
  unfold g11
  refine Jb (fun x:ByteArray=>s.toList==x.toList) L (by omega) (S:=fun y:Int=>J4 n L s (0) (L.length:Int) y) (fun i x hx=> ?_) ?_ n hL
  ·have:=Dt hx
   unfold J4
   rw [decide_eq_true (show (i:Int)<_ by omega),cond_true,Bv hx,Option.bind_some,wS (by omega)]
   cases s.toList==x.toList<;>rfl
  ·unfold J4
   rw [decide_eq_false (Int.lt_irrefl _)];rfl
 unfold g44
 rw [e,Option.bind_some]
 congr 1
 unfold has
 have hn:=Mb (fun x:ByteArray=>s.toList==x.toList) L
 rcases Int.lt_or_le (Dq (fun x:ByteArray=>s.toList==x.toList) L) 0 with h|h
 ·rw [decide_eq_false (show ¬Dq (fun x:ByteArray=>s.toList==x.toList) L≥0 by omega)]
  symm
  rw [List.any_eq_false]
  exact fun x hx=>by have:=hn.1 h x hx;simp [this]
 ·rw [decide_eq_true h]
  symm
  by_cases hh:(L.any fun x=>s.toList==x.toList)=true
  ·exact hh
  ·exfalso
   have:=hn.2 (fun x hx=>by
    cases hq:(s.toList==x.toList)
    ·rfl
    ·exact absurd (List.any_eq_true.2 ⟨x,hx,hq⟩) hh)
   omega
structure iF (a:List Ab):Prop where
 len:a.length≤12
 grp:∀g∈a,1≤g.Position.size∧g.Ak≠[]
 all:(a.flatMap (·.Ak)).length≤12
theorem take_one {α:Type} {l:List α} {i:Nat} {x:α} (h:l[i]?=some x):l.take (i+1)=l.take i++[x]:=by rw [List.take_add_one,h];rfl
theorem jW (n:Nat) (hn:30<n) (a:List Ab) (c:Int) (v:Int) (s:List ByteArray) (p:ByteArray) (L:List ByteArray) (hL:L.length≤12):∃r,A7 (fun y:Int×List ByteArray=>D2 n a 0 c v s (s.length:Int) p y.1 y.2) n ((0),L)=some r∧((∃z,z≠0∧r=.inr z)∨(r=.inl (IntKind.wrap .i64 (v+1),L++s)∧(L++s).length≤12)):=by
 refine Cb (fun y:Int×List ByteArray=>∃j:Nat,j≤s.length∧y=((j:Int),L++s.take j)∧(L++s.take j).length≤12) _ (fun y=>13-y.2.length) ?_ n _ ⟨0,Nat.zero_le _,by simp,by simpa using hL⟩ (by show 13 - _<n;omega)
 rintro _ ⟨j,hj,rfl,hM⟩
 show (∃y,D2 n a 0 c v s (s.length:Int) p (j:Int) (L++s.take j)=some (.inl y)∧_∧_)∨∃r,D2 n a 0 c v s (s.length:Int) p (j:Int) (L++s.take j)=some (.inr r)∧_
 have hjl:j≤12:=by rw [List.length_append,List.length_take] at hM;omega
 rcases Nat.lt_or_ge j s.length with hlt|hge
 ·have hx:s[j]?=some s[j]:=List.getElem?_eq_getElem hlt
  generalize s[j]=x at hx
  have hval:=Yz n (L++s.take j) (by omega) (by omega) x
  obtain ⟨b,hb,-⟩:=P4 n (by omega) x
  unfold D2
  rw [decide_eq_true (show (j:Int)<(s.length:Int) by omega),cond_true,Bv hx,Option.bind_some,hb,Option.bind_some]
  cases b with
  |false=>exact .inr ⟨_,rfl,.inl ⟨3,by decide,rfl⟩⟩
  |true=>
  rw [Bool.not_true,cond_false,hval,Option.bind_some]
  cases has (L++s.take j) x with
  |true=>exact .inr ⟨_,rfl,.inl ⟨7,by decide,rfl⟩⟩
  |false=>
  rw [cond_false]
  have tail:(∃y,(bif (((L++s.take j).length:Int)==(12)) then some (.inr (.inr (2))) else (Gl ((L++s.take j).length+([x]:List ByteArray).length) 16).bind fun _=>some (.inl ((IntKind.wrap .i64 ((j:Int)+(1))),((L++s.take j)++([x]:List ByteArray)))):Option ((Int×List ByteArray)⊕((Int×List ByteArray)⊕Int)))=some (.inl y)∧(∃j':Nat,j'≤s.length∧y=((j':Int),L++s.take j')∧(L++s.take j').length≤12)∧13-y.2.length<13-(L++s.take j).length)∨∃r,(bif (((L++s.take j).length:Int)==(12)) then some (.inr (.inr (2))) else (Gl ((L++s.take j).length+([x]:List ByteArray).length) 16).bind fun _=>some (.inl ((IntKind.wrap .i64 ((j:Int)+(1))),((L++s.take j)++([x]:List ByteArray)))):Option ((Int×List ByteArray)⊕((Int×List ByteArray)⊕Int)))=some (.inr r)∧((∃z,z≠0∧r=.inr z)∨(r=.inl (IntKind.wrap .i64 (v+1),L++s)∧(L++s).length≤12)):=by
   by_cases h12:(((L++s.take j).length:Int)=12)
   ·rw [beq_iff_eq.2 h12,cond_true]
    exact .inr ⟨_,rfl,.inl ⟨2,by decide,rfl⟩⟩
   ·rw [beq_eq_false_iff_ne.2 h12,cond_false,Hj (by simp only [List.length_singleton];omega) (by simp only [List.length_singleton];omega),Option.bind_some,wS (by omega)]
    have e:(L++s.take j)++[x]=L++s.take (j+1):=by rw [take_one hx,List.append_assoc]
    rw [e]
    have hle:(L++s.take (j+1)).length=(L++s.take j).length+1:=by rw [← e];simp;omega
    exact .inl ⟨_,rfl,⟨j+1,hlt,rfl,by omega⟩,by show 13-(L++s.take (j+1)).length<_;omega⟩
  by_cases hj0:(j:Int)>0
  ·obtain ⟨i,rfl⟩:∃i,j=i+1:=⟨j-1,by omega⟩
   have hw:IntKind.wrap .i64 (((i+1:Nat):Int)-1)=(i:Int):=by rw [wrap64 (by omega) (by omega)];omega
   have hy:s[i]?=some s[i]:=List.getElem?_eq_getElem (by omega)
   rw [decide_eq_true hj0,cond_true,hw,Bv hy,Option.bind_some]
   cases Op.bytesLess x.toList (s[i]).toList with
   |true=>exact .inr ⟨_,rfl,.inl ⟨7,by decide,rfl⟩⟩
   |false=>rw [cond_false];exact tail
  ·rw [decide_eq_false hj0,cond_false];exact tail
 ·have hj':j=s.length:=by omega
  subst hj'
  unfold D2
  rw [decide_eq_false (Int.lt_irrefl _),cond_false]
  refine .inr ⟨_,rfl,.inr ⟨by rw [List.take_length],by rw [List.take_length] at hM;exact hM⟩⟩
theorem cK (n:Nat) (hn:30<n) (a:List Ab):∃z,o7 n a=some z∧(z=0→iF a):=by
 unfold o7
 by_cases hl:(a.length:Int)>12
 ·rw [decide_eq_true hl,cond_true];exact ⟨2,rfl,fun h=>by cases h⟩
 rw [decide_eq_false hl,cond_false]
 refine Cb (S:=fun y:Int×List ByteArray=>I9 n a (0) (a.length:Int) y.1 y.2) (fun y=>∃i:Nat,i≤a.length∧y=((i:Int),(a.take i).flatMap (·.Ak))∧((a.take i).flatMap (·.Ak)).length≤12∧∀g∈a.take i,1≤g.Position.size∧g.Ak≠[]) (fun z=>z=0→iF a) (fun y=>a.length-y.1.toNat) ?_ n _ ⟨0,Nat.zero_le _,rfl,Nat.zero_le _,fun g hg=>by cases hg⟩ (by show a.length-(0:Int).toNat<n;omega)
 rintro _ ⟨i,hi,rfl,hM,hG⟩
 show (∃y,I9 n a (0) (a.length:Int) (i:Int) ((a.take i).flatMap (·.Ak))=some (.inl y)∧_∧_)∨∃r,I9 n a (0) (a.length:Int) (i:Int) ((a.take i).flatMap (·.Ak))=some (.inr r)∧_
 rcases Nat.lt_or_ge i a.length with hlt|hge
 ·have hx:a[i]?=some a[i]:=List.getElem?_eq_getElem hlt
  generalize a[i]=g at hx
  obtain ⟨b,hb,hb1⟩:=P4 n (by omega) g.Position
  unfold I9
  rw [decide_eq_true (show (i:Int)<(a.length:Int) by omega),cond_true,Bv hx,Option.bind_some,hb,Option.bind_some]
  cases b with
  |false=>exact .inr ⟨_,rfl,fun h=>by cases h⟩
  |true=>
  rw [Bool.not_true,cond_false]
  have tail:(∃y,(bif ((g.Ak.length:Int)==(0)) then some (.inr (8)) else A7 (fun y:Int×List ByteArray=>D2 n a 0 (a.length:Int) (i:Int) g.Ak (g.Ak.length:Int) g.Position y.1 y.2) n ((0),(a.take i).flatMap (·.Ak)):Option ((Int×List ByteArray)⊕Int))=some (.inl y)∧(∃i':Nat,i'≤a.length∧y=((i':Int),(a.take i').flatMap (·.Ak))∧((a.take i').flatMap (·.Ak)).length≤12∧∀g∈a.take i',1≤g.Position.size∧g.Ak≠[])∧a.length-y.1.toNat<a.length-(i:Int).toNat)∨∃r,(bif ((g.Ak.length:Int)==(0)) then some (.inr (8)) else A7 (fun y:Int×List ByteArray=>D2 n a 0 (a.length:Int) (i:Int) g.Ak (g.Ak.length:Int) g.Position y.1 y.2) n ((0),(a.take i).flatMap (·.Ak)):Option ((Int×List ByteArray)⊕Int))=some (.inr r)∧(r=0→iF a):=by
   by_cases h0:(g.Ak.length:Int)=0
   ·rw [beq_iff_eq.2 h0,cond_true]
    exact .inr ⟨_,rfl,fun h=>by cases h⟩
   rw [beq_eq_false_iff_ne.2 h0,cond_false]
   obtain ⟨r,hr,⟨z,hz,rfl⟩|⟨rfl,hle⟩⟩:=jW n hn a (a.length:Int) (i:Int) g.Ak g.Position ((a.take i).flatMap (·.Ak)) hM
   ·exact .inr ⟨z,hr,fun h=>absurd h hz⟩
   ·have e:(a.take i).flatMap (·.Ak)++g.Ak=(a.take (i+1)).flatMap (·.Ak):=by rw [take_one hx];simp
    rw [wS (by omega)] at hr
    rw [e] at hr hle
    refine .inl ⟨_,hr,⟨i+1,hlt,rfl,hle,fun q hq=> ?_⟩,by show a.length-((i+1:Nat):Int).toNat<_;omega⟩
    rw [take_one hx] at hq
    rcases List.mem_append.1 hq with k|k
    ·exact hG q k
    ·rw [List.mem_singleton.1 k]
     exact ⟨hb1 rfl,fun e=>by rw [e] at h0;exact h0 rfl⟩
  by_cases hi0:(i:Int)>0
  ·obtain ⟨q,rfl⟩:∃q,i=q+1:=⟨i-1,by omega⟩
   have hw:IntKind.wrap .i64 (((q+1:Nat):Int)-1)=(q:Int):=by rw [wrap64 (by omega) (by omega)];omega
   have hy:a[q]?=some a[q]:=List.getElem?_eq_getElem (by omega)
   rw [decide_eq_true hi0,cond_true,hw,Bv hy,Option.bind_some]
   cases (Op.bytesLess (g.Position).toList ((a[q]).Position).toList||(g.Position).toList==((a[q]).Position).toList) with
   |true=>exact .inr ⟨_,rfl,fun h=>by cases h⟩
   |false=>rw [cond_false];exact tail
  ·rw [decide_eq_false hi0,cond_false];exact tail
 ·have hi':i=a.length:=by omega
  subst hi'
  unfold I9
  rw [decide_eq_false (Int.lt_irrefl _),cond_false]
  rw [List.take_length] at hM hG
  exact .inr ⟨_,rfl,fun _=>⟨by omega,hG,hM⟩⟩
theorem Jo {a:List Ab} {g:Ab} (h:g∈a):g.Ak.length≤(a.flatMap (·.Ak)).length:=by
 obtain ⟨s,t,rfl⟩:=List.append_of_mem h
 rw [List.flatMap_append,List.flatMap_cons,List.length_append,List.length_append]
 omega
def nms (a:List Ab):List ByteArray:=Dr (a.flatMap (·.Ak))
theorem Ab5 (a:List Ab):(nms a).length=(a.flatMap (·.Ak)).length:=Kg _
theorem rH (n:Nat) (hn:30<n) (a:List Ab) (hc:o7 n a=some 0) (ha:iF a):g13 n a=some (nms a,0):=by
 unfold g13
 rw [hc,Option.bind_some,show ((0:Int) !=0)=false from rfl,cond_false]
 have hl:=ha.len
 have hall:=ha.all
 refine Hr (S:=fun y:Int×List ByteArray=>Nq n (0) a (a.length:Int) y.1 y.2) (fun y=>∃i:Nat,i≤a.length∧y=((i:Int),(a.take i).flatMap (·.Ak))) _ (fun y=>a.length-y.1.toNat) ?_ n _ ⟨0,Nat.zero_le _,rfl⟩ (by show a.length-(0:Int).toNat<n;omega)
 rintro _ ⟨i,hi,rfl⟩
 show (∃y,Nq n (0) a (a.length:Int) (i:Int) ((a.take i).flatMap (·.Ak))=some (.inl y)∧_∧_)∨Nq n (0) a (a.length:Int) (i:Int) ((a.take i).flatMap (·.Ak))=some (.inr _)
 rcases Nat.lt_or_ge i a.length with hlt|hge
 ·have hx:a[i]?=some a[i]:=List.getElem?_eq_getElem hlt
  generalize a[i]=g at hx
  have hm:=List.mem_of_getElem? hx
  have hs:=Jo hm
  have hp:((a.take i).flatMap (·.Ak)).length≤12:=by
   have e:a.flatMap (·.Ak)=(a.take i).flatMap (·.Ak)++(a.drop i).flatMap (·.Ak):=by rw [← List.flatMap_append,List.take_append_drop]
   rw [e,List.length_append] at hall;omega
  have hne:neO g.Ak=some ():=by
   have:=(ha.grp g hm).2
   cases hg:g.Ak with
   |nil=>exact absurd hg this
   |cons _ _=>rfl
  left
  refine ⟨(((i+1:Nat):Int),(a.take (i+1)).flatMap (·.Ak)),?_,⟨i+1,hlt,rfl⟩,by show a.length-((i+1:Nat):Int).toNat<a.length-(i:Int).toNat;omega⟩
  unfold Nq
  rw [decide_eq_true (show (i:Int)<(a.length:Int) by omega),cond_true,Bv hx,Option.bind_some,hne,Option.bind_some,Hj (by omega) (by omega),Option.bind_some,wS (by omega),take_one hx]
  simp
 ·have hi':i=a.length:=by omega
  subst hi'
  right
  unfold Nq
  rw [decide_eq_false (Int.lt_irrefl _),cond_false,List.take_length]
  have:cQ (a.flatMap (·.Ak))=some ():=by unfold cQ;rw [if_pos (by omega)]
  rw [this,Option.bind_some];rfl
def fnd (a:List Ab) (s:ByteArray):ByteArray:=match a.find? (fun g=> !(!has g.Ak s)) with|some g=>g.Position|none=>⟨#[]⟩
theorem yB (n:Nat) (hn:30<n) (a:List Ab) (ha:iF a) (s:ByteArray):g54 n a s=some (fnd a s):=by
 have hl:=ha.len
 unfold g54
 refine (Aar (S:=fun y:Int=>No n s (⟨#[]⟩:ByteArray) a (a.length:Int) y) a (fun g=> !has g.Ak s) (fun g=>g.Position) ⟨#[]⟩ (fun i g hx=> ?_) ?_ n (by omega)).trans (congrArg some ?_)
 ·have:=Dt hx
  have:=Jo (List.mem_of_getElem? hx)
  have:=ha.all
  show No n s (⟨#[]⟩:ByteArray) a (a.length:Int) (i:Int)=_
  unfold No
  rw [decide_eq_true (show (i:Int)<(a.length:Int) by omega),cond_true,Bv hx,Option.bind_some,Yz n g.Ak (by omega) (by omega) s,Option.bind_some,wS (by omega)]
  cases has g.Ak s<;>rfl
 ·show No n s (⟨#[]⟩:ByteArray) a (a.length:Int) (a.length:Int)=_
  unfold No
  rw [decide_eq_false (Int.lt_irrefl _)];rfl
 ·unfold fnd
  cases a.find? (fun g=> !(!has g.Ak s))<;>rfl
theorem Akf {a:List Ab} (ha:iF a) {s:ByteArray} (hs:s∈nms a):((fnd a s).toList==(⟨#[]⟩:ByteArray).toList)=false:=by
 have hs':s∈a.flatMap (·.Ak):=(Kz _).mem_iff.1 hs
 obtain ⟨g,hg,hgs⟩:=List.mem_flatMap.1 hs'
 have key:∃q∈a,fnd a s=q.Position:=by
  unfold fnd
  cases hf:a.find? (fun g=> !(!has g.Ak s)) with
  |some q=>exact ⟨q,List.mem_of_find?_eq_some hf,rfl⟩
  |none=>
   have:=List.find?_eq_none.1 hf g hg
   rw [Ib.2 hgs] at this
   simp at this
 obtain ⟨q,hq,e⟩:=key
 rw [e,beq_eq_false_iff_ne]
 intro h
 have h1:=(ha.grp q hq).1
 rw [str_inj h] at h1
 exact absurd h1 (by decide)
theorem rG (n:Nat) (hn:30<n) (x y:List ByteArray) (hx:x.length≤12):g16 n x y=some (decide (x=y)):=by
 unfold g16
 by_cases hl:x.length=y.length
 case neg=>
  rw [bne_iff_ne.2 (show (x.length:Int)≠(y.length:Int) by omega),cond_true,decide_eq_false (fun e=>hl (by rw [e]))]
 rw [show ((x.length:Int) !=(y.length:Int))=false from by rw [hl];simp,cond_false]
 refine jI (S:=fun z:Int=>Nx n x y false (x.length:Int) z) x y hl (fun i p q hp hq=> ?_) ?_ n (by omega)
 ·have:=Dt hp
  show Nx n x y false (x.length:Int) (i:Int)=_
  unfold Nx
  rw [decide_eq_true (show (i:Int)<(x.length:Int) by omega),cond_true,Bv hp,Option.bind_some,Bv hq,Option.bind_some,wS (by omega)]
  by_cases h:p=q
  ·rw [if_pos h,h];simp
  ·rw [if_neg h,beq_eq_false_iff_ne.2 (fun e=>h (str_inj e))];rfl
 ·show Nx n x y false (x.length:Int) (x.length:Int)=_
  unfold Nx
  rw [decide_eq_false (Int.lt_irrefl _)];rfl
abbrev LtP (a b:Ab):Prop:=Op.bytesLess a.Position.toList b.Position.toList=true
abbrev LeS (a b:ByteArray):Prop:=Op.bytesLess b.toList a.toList=false
structure Gd (V:ByteArray→Prop) (l:List Ab):Prop where
 pos:l.Pairwise LtP
 V1:∀g∈l,V g.Position∧g.Ak≠[]∧(∀s∈g.Ak,V s)∧g.Ak.Pairwise LeS
 dup:(l.flatMap (·.Ak)).Nodup
 all:(l.flatMap (·.Ak)).length≤12
theorem Ag3 (a b c:ByteArray) (h1:LeS a b) (h2:LeS b c):LeS a c:=by
 unfold LeS at*
 cases h:Op.bytesLess c.toList a.toList with
 |false=>rfl
 |true=>
  rcases L3 b.toList c.toList with k|k|k
  ·rw [O3 _ _ _ k h] at h1;cases h1
  ·rw [k] at h2;cases h2
  ·rw [← k] at h;rw [h] at h1;cases h1
theorem w7 {α:Type} {R:α→α→Prop} (ht:∀a b c,R a b→R b c→R a c):∀{l:List α},(∀(i:Nat) (x y:α),l[i]?=some x→l[i+1]?=some y→R x y)→l.Pairwise R
 |[],_=> .nil
 |[a],_=>List.pairwise_singleton _ _
 |a::b::l,h=>by
  have ih:=w7 ht (l:=b::l) (fun i x y hx hy=>h (i+1) x y hx hy)
  have hab:=h 0 a b rfl rfl
  refine List.pairwise_cons.2 ⟨fun y hy=> ?_,ih⟩
  rcases List.mem_cons.1 hy with rfl|hy
  ·exact hab
  ·exact ht _ _ _ hab ((List.pairwise_cons.1 ih).1 y hy)
theorem jY {α:Type} {R:α→α→Prop} {l:List α} (h:l.Pairwise R) {i:Nat} {x y:α} (hx:l[i]?=some x) (hy:l[i+1]?=some y):R x y:=by
 obtain ⟨h1,rfl⟩:=List.getElem?_eq_some_iff.1 hx
 obtain ⟨h2,rfl⟩:=List.getElem?_eq_some_iff.1 hy
 exact List.pairwise_iff_getElem.1 h i (i+1) h1 h2 (by omega)
theorem gJ {a b:Ab} (h:LtP a b):a.Position≠b.Position:=fun e=>by
 unfold LtP at h;rw [e,Vc] at h;cases h
theorem Vv {l:List Ab} (h:l.Pairwise LtP):(l.map (·.Position)).Nodup:=by
 rw [List.Nodup,List.pairwise_map]
 exact h.imp fun h=>gJ h
theorem wM {l:List Ab} (h:l.Pairwise fun a b=>Op.bytesLess b.Position.toList a.Position.toList=false) (hn:(l.map (·.Position)).Nodup):l.Pairwise LtP:=by
 rw [List.Nodup,List.pairwise_map] at hn
 refine (h.and hn).imp fun {a b} ⟨h1,h2⟩=> ?_
 rcases L3 a.Position.toList b.Position.toList with k|k|k
 ·exact k
 ·rw [k] at h1;cases h1
 ·exact absurd (by rw [ByteArray.toList_eq,ByteArray.toList_eq] at k;exact ByteArray.ext (Array.toList_inj.1 k)) h2
def Mk (l:List Ab) (p s:ByteArray):Prop:=∃g∈l,g.Position=p∧s∈g.Ak
theorem kX:∀{l:List Ab},(l.flatMap (·.Ak)).Nodup→∀{p q s:ByteArray},Mk l p s→Mk l q s→p=q
 |[],_,_,_,_,⟨_,h,_⟩,_=>by cases h
 |g::l,hn,p,q,s,⟨a,ha,ha1,ha2⟩,⟨b,hb,hb1,hb2⟩=>by
  rw [List.flatMap_cons,List.nodup_append] at hn
  rcases List.mem_cons.1 ha with rfl|ha'<;>rcases List.mem_cons.1 hb with rfl|hb'
  ·rw [← ha1,hb1]
  ·exact absurd rfl (hn.2.2 s ha2 s (List.mem_flatMap.2 ⟨b,hb',hb2⟩))
  ·exact absurd rfl (hn.2.2 s hb2 s (List.mem_flatMap.2 ⟨a,ha',ha2⟩))
  ·exact kX hn.2.1 ⟨a,ha',ha1,ha2⟩ ⟨b,hb',hb1,hb2⟩
theorem Kc {l k:List Ab} (h:l.Perm k):(l.flatMap (·.Ak)).Perm (k.flatMap (·.Ak)):=by
 rw [List.flatMap,List.flatMap]
 exact (h.map _).flatten
theorem Ms {l:List Ab} (h:(l.map (·.Position)).Nodup) {x y:Ab} (hx:x∈l) (hy:y∈l) (e:x.Position=y.Position):x=y:=by
 rw [List.Nodup,List.pairwise_map] at h
 exact u9 _ h x hx y hy e
structure dZ (l R:List Ab) (x y z:Ab):Prop where
 was:∃E,(x::E).Perm l∧(y::R).Perm (z::E)
 sub:List.Sublist (R.map (·.Position)) (l.map (·.Position))
 pz:z.Position=x.Position
 sz:z.Ak.Perm (x.Ak++y.Ak)
 sor:z.Ak.Pairwise LeS
 ne:x.Position≠y.Position
theorem G7 {α:Type}:∀{l:List α} {i:Nat} {x:α},l[i]?=some x→(x::l.eraseIdx i).Perm l
 |a::l,0,x,h=>by cases h;exact List.Perm.refl _
 |a::l,i+1,x,h=>by
  rw [List.eraseIdx_cons_succ]
  exact (List.Perm.swap a x _).trans ((G7 (l:=l) (i:=i) h).cons a)
theorem set_perm {α:Type}:∀{l:List α} {i:Nat} {x z:α},l[i]?=some x→(l.set i z).Perm (z::l.eraseIdx i)
 |a::l,0,x,z,h=>by cases h;exact List.Perm.refl _
 |a::l,i+1,x,z,h=>by
  rw [List.eraseIdx_cons_succ,List.set_cons_succ]
  exact ((set_perm (l:=l) (i:=i) h).cons a).trans (List.Perm.swap z a _)
theorem Ae7 {V:ByteArray→Prop} {l:List Ab} (hl:Gd V l) {i k:Nat} {x y z:Ab} (hx:l[i]?=some x) (hy:l[k]?=some y) (hik:i≠k) (pz:z.Position=x.Position) (sz:z.Ak.Perm (x.Ak++y.Ak)) (sor:z.Ak.Pairwise LeS):dZ l ((l.set i z).eraseIdx k) x y z:=by
 have hy':(l.set i z)[k]?=some y:=by rw [List.getElem?_set_ne hik];exact hy
 have hne:x.Position≠y.Position:=by
  obtain ⟨h1,e1⟩:=List.getElem?_eq_some_iff.1 hx
  obtain ⟨h2,e2⟩:=List.getElem?_eq_some_iff.1 hy
  have:=List.pairwise_iff_getElem.1 hl.pos
  rcases Nat.lt_or_gt_of_ne hik with h|h
  ·have:=this i k h1 h2 h
   rw [e1,e2] at this
   exact gJ this
  ·have:=this k i h2 h1 h
   rw [e1,e2] at this
   exact (gJ this).symm
 refine ⟨⟨l.eraseIdx i,G7 hx,(G7 hy').trans (set_perm hx)⟩,?_,pz,sz,sor,hne⟩
 have e:(l.set i z).map (·.Position)=l.map (·.Position):=by
  rw [List.map_set,pz]
  refine List.ext_getElem? fun j=> ?_
  by_cases hj:i=j
  ·subst hj
   rw [List.getElem?_set_self (by rw [List.length_map];exact Dt hx),List.getElem?_map,hx];rfl
  ·rw [List.getElem?_set_ne hj]
 rw [← e]
 exact (List.eraseIdx_sublist _ _).map _
theorem dZ.flat {l R:List Ab} {x y z:Ab} (h:dZ l R x y z):(R.flatMap (·.Ak)).Perm (l.flatMap (·.Ak)):=by
 obtain ⟨E,h1,h2⟩:=h.was
 have p1:=Kc h1
 have p2:=Kc h2
 rw [List.flatMap_cons] at p1
 rw [List.flatMap_cons,List.flatMap_cons] at p2
 have p3:(y.Ak++R.flatMap (·.Ak)).Perm (y.Ak++l.flatMap (·.Ak)):=by
  refine p2.trans ((h.sz.append_right _).trans ?_)
  rw [List.append_assoc]
  refine List.Perm.trans ?_ (p1.append_left y.Ak)
  rw [← List.append_assoc,← List.append_assoc]
  exact List.perm_append_comm.append_right _
 exact (List.perm_append_left_iff _).1 p3
theorem dZ.Td {V:ByteArray→Prop} {l R:List Ab} {x y z:Ab} (h:dZ l R x y z) (hl:Gd V l):Gd V R:=by
 have hf:=h.flat
 obtain ⟨E,h1,h2⟩:=h.was
 have hyz:y∈l:=by
  have:y∈z::E:=h2.mem_iff.1 (by simp)
  rcases List.mem_cons.1 this with e|e
  ·exact absurd (by rw [← h.pz,← e]) h.ne
  ·exact h1.mem_iff.1 (by simp [e])
 have hxl:x∈l:=h1.mem_iff.1 (by simp)
 refine ⟨?_,fun g hg=> ?_,hf.nodup_iff.2 hl.dup,by rw [hf.length_eq];exact hl.all⟩
 ·have:=hl.pos
  have h3:(l.map (·.Position)).Pairwise fun a b=>Op.bytesLess a.toList b.toList=true:=by rw [List.pairwise_map];exact this
  have h4:=h3.sublist h.sub
  rwa [List.pairwise_map] at h4
 ·have:g∈z::E:=h2.mem_iff.1 (by simp [hg])
  rcases List.mem_cons.1 this with rfl|e
  ·have hx:=hl.V1 x hxl
   have hy:=hl.V1 y hyz
   refine ⟨by rw [h.pz];exact hx.1,fun e=> ?_,fun s hs=> ?_,h.sor⟩
   ·have:=h.sz.length_eq
    rw [e,List.length_append] at this
    exact hx.2.1 (List.length_eq_zero_iff.1 (by simp at this;omega))
   ·rcases List.mem_append.1 (h.sz.mem_iff.1 hs) with k|k
    ·exact hx.2.2.1 s k
    ·exact hy.2.2.1 s k
  ·exact hl.V1 g (h1.mem_iff.1 (by simp [e]))
theorem dZ.own {V:ByteArray→Prop} {l R:List Ab} {x y z:Ab} (h:dZ l R x y z) (hl:Gd V l) (p s:ByteArray):Mk R p s↔(p=x.Position∧(Mk l x.Position s∨Mk l y.Position s))∨(p≠x.Position∧p≠y.Position∧Mk l p s):=by
 obtain ⟨E,h1,h2⟩:=h.was
 have nl:=Vv hl.pos
 have nx:((x::E).map (·.Position)).Nodup:=(h1.map _).nodup_iff.2 nl
 have nz:((z::E).map (·.Position)).Nodup:=by rw [List.map_cons,h.pz];exact nx
 have ny:((y::R).map (·.Position)).Nodup:=(h2.map _).nodup_iff.2 nz
 have hxl:x∈l:=h1.mem_iff.1 (by simp)
 have hyl:y∈l:=by
  have:y∈z::E:=h2.mem_iff.1 (by simp)
  rcases List.mem_cons.1 this with e|e
  ·exact absurd (by rw [← h.pz,← e]) h.ne
  ·exact h1.mem_iff.1 (by simp [e])
 rw [List.map_cons,List.nodup_cons] at nx ny
 constructor
 ·rintro ⟨g,hg,rfl,hs⟩
  have:g∈z::E:=h2.mem_iff.1 (by simp [hg])
  rcases List.mem_cons.1 this with rfl|e
  ·left
   refine ⟨h.pz,?_⟩
   rcases List.mem_append.1 (h.sz.mem_iff.1 hs) with k|k
   ·exact .inl ⟨x,hxl,rfl,k⟩
   ·exact .inr ⟨y,hyl,rfl,k⟩
  ·right
   refine ⟨fun q=>nx.1 (List.mem_map.2 ⟨g,e,q⟩),fun q=>ny.1 (List.mem_map.2 ⟨g,hg,q⟩),g,h1.mem_iff.1 (by simp [e]),rfl,hs⟩
 ·rintro (⟨rfl,k⟩|⟨q1,q2,g,hg,rfl,hs⟩)
  ·have hzR:z∈R:=by
    have:z∈y::R:=h2.mem_iff.2 (by simp)
    rcases List.mem_cons.1 this with e|e
    ·exact absurd (by rw [← h.pz,e]) h.ne
    ·exact e
   refine ⟨z,hzR,h.pz,h.sz.mem_iff.2 (List.mem_append.2 ?_)⟩
   rcases k with ⟨g,hg,e,hs⟩|⟨g,hg,e,hs⟩
   ·rw [Ms nl hg hxl e] at hs;exact .inl hs
   ·rw [Ms nl hg hyl e] at hs;exact .inr hs
  ·have:g∈x::E:=h1.mem_iff.2 hg
   rcases List.mem_cons.1 this with e|e
   ·exact absurd (by rw [e]) q1
   ·have:g∈y::R:=h2.mem_iff.2 (by simp [e])
    rcases List.mem_cons.1 this with e|e
    ·exact absurd (by rw [e]) q2
    ·exact ⟨g,e,rfl,hs⟩
structure Spl (l R:List Ab) (x u v:Ab) (w:ByteArray→Bool):Prop where
 was:∃E,(x::E).Perm l∧R.Perm (u::v::E)
 pu:u.Position=x.Position
 su:u.Ak=x.Ak.filter fun s=> !w s
 sv:v.Ak=x.Ak.filter w
 nu:u.Ak≠[]
 nv:v.Ak≠[]
 new:∀g∈l,g.Position≠v.Position
 sor:R.Pairwise fun a b=>Op.bytesLess b.Position.toList a.Position.toList=false
theorem Spl.flat {l R:List Ab} {x u v:Ab} {w:ByteArray→Bool} (h:Spl l R x u v w):(R.flatMap (·.Ak)).Perm (l.flatMap (·.Ak)):=by
 obtain ⟨E,h1,h2⟩:=h.was
 refine (Kc h2).trans (List.Perm.trans ?_ (Kc h1))
 rw [List.flatMap_cons,List.flatMap_cons,List.flatMap_cons,← List.append_assoc,h.su,h.sv]
 refine List.Perm.append_right _ ?_
 exact List.perm_append_comm.trans (List.filter_append_perm w x.Ak)
theorem Spl.pnd {V:ByteArray→Prop} {l R:List Ab} {x u v:Ab} {w:ByteArray→Bool} (h:Spl l R x u v w) (hl:Gd V l):(R.map (·.Position)).Nodup:=by
 obtain ⟨E,h1,h2⟩:=h.was
 have nx:((x::E).map (·.Position)).Nodup:=(h1.map _).nodup_iff.2 (Vv hl.pos)
 refine (h2.map _).nodup_iff.2 ?_
 rw [List.map_cons,List.nodup_cons] at nx
 rw [List.map_cons,List.map_cons,List.nodup_cons,List.nodup_cons,h.pu]
 have hv:∀g∈x::E,g.Position≠v.Position:=fun g hg=>h.new g (h1.mem_iff.1 hg)
 refine ⟨fun q=> ?_,fun q=> ?_,nx.2⟩
 ·rcases List.mem_cons.1 q with e|e
  ·exact hv x (by simp) e
  ·exact nx.1 e
 ·obtain ⟨g,hg,e⟩:=List.mem_map.1 q
  exact hv g (by simp [hg]) e
theorem Spl.Td {V:ByteArray→Prop} {l R:List Ab} {x u v:Ab} {w:ByteArray→Bool} (h:Spl l R x u v w) (hl:Gd V l) (hv:V v.Position):Gd V R:=by
 have hf:=h.flat
 have hp:=h.pnd hl
 obtain ⟨E,h1,h2⟩:=h.was
 have hx:=hl.V1 x (h1.mem_iff.1 (by simp))
 refine ⟨wM h.sor hp,fun g hg=> ?_,hf.nodup_iff.2 hl.dup,by rw [hf.length_eq];exact hl.all⟩
 have:g∈u::v::E:=h2.mem_iff.1 hg
 rcases List.mem_cons.1 this with rfl|e
 ·refine ⟨by rw [h.pu];exact hx.1,h.nu,fun s hs=> ?_,?_⟩
  ·rw [h.su] at hs;exact hx.2.2.1 s (List.mem_filter.1 hs).1
  ·rw [h.su];exact hx.2.2.2.filter _
 rcases List.mem_cons.1 e with rfl|e
 ·refine ⟨hv,h.nv,fun s hs=> ?_,?_⟩
  ·rw [h.sv] at hs;exact hx.2.2.1 s (List.mem_filter.1 hs).1
  ·rw [h.sv];exact hx.2.2.2.filter _
 ·exact hl.V1 g (h1.mem_iff.1 (by simp [e]))
theorem Spl.own {V:ByteArray→Prop} {l R:List Ab} {x u v:Ab} {w:ByteArray→Bool} (h:Spl l R x u v w) (hl:Gd V l) (p s:ByteArray):Mk R p s↔(p=x.Position∧Mk l x.Position s∧w s=false)∨(p=v.Position∧Mk l x.Position s∧w s=true)∨(p≠x.Position∧p≠v.Position∧Mk l p s):=by
 obtain ⟨E,h1,h2⟩:=h.was
 have nl:=Vv hl.pos
 have nx:((x::E).map (·.Position)).Nodup:=(h1.map _).nodup_iff.2 nl
 have hxl:x∈l:=h1.mem_iff.1 (by simp)
 rw [List.map_cons,List.nodup_cons] at nx
 constructor
 ·rintro ⟨g,hg,rfl,hs⟩
  have:g∈u::v::E:=h2.mem_iff.1 hg
  rcases List.mem_cons.1 this with rfl|e
  ·rw [h.su] at hs
   have:=List.mem_filter.1 hs
   exact .inl ⟨h.pu,⟨x,hxl,rfl,this.1⟩,by simpa using this.2⟩
  rcases List.mem_cons.1 e with rfl|e
  ·rw [h.sv] at hs
   have:=List.mem_filter.1 hs
   exact .inr (.inl ⟨rfl,⟨x,hxl,rfl,this.1⟩,this.2⟩)
  ·have hgl:g∈l:=h1.mem_iff.1 (by simp [e])
   exact .inr (.inr ⟨fun q=>nx.1 (List.mem_map.2 ⟨g,e,q⟩),h.new g hgl,g,hgl,rfl,hs⟩)
 ·rintro (⟨rfl,⟨g,hg,e,hs⟩,k⟩|⟨rfl,⟨g,hg,e,hs⟩,k⟩|⟨q1,q2,g,hg,rfl,hs⟩)
  ·rw [Ms nl hg hxl e] at hs
   exact ⟨u,h2.mem_iff.2 (by simp),h.pu,by rw [h.su];exact List.mem_filter.2 ⟨hs,by simp [k]⟩⟩
  ·rw [Ms nl hg hxl e] at hs
   exact ⟨v,h2.mem_iff.2 (by simp),rfl,by rw [h.sv];exact List.mem_filter.2 ⟨hs,k⟩⟩
  ·have:g∈x::E:=h1.mem_iff.2 hg
   rcases List.mem_cons.1 this with e|e
   ·exact absurd (by rw [e]) q1
   ·exact ⟨g,h2.mem_iff.2 (by simp [e]),rfl,hs⟩
def Vn (n:Nat) (s:ByteArray):Prop:=j7 n s=some true
structure Uo (n:Nat) (L s:List ByteArray):Prop where
 V1:∀x∈s,Vn n x
 sor:s.Pairwise LeS
 dup:(L++s).Nodup
 all:(L++s).length≤12
theorem Uo.left {n:Nat} {L s t:List ByteArray} (h:Uo n L (s++t)):Uo n L s:=by
 refine ⟨fun x hx=>h.V1 x (by simp [hx]),(List.pairwise_append.1 h.sor).1,?_,?_⟩
 ·have:=h.dup
  rw [← List.append_assoc] at this
  exact (List.nodup_append.1 this).1
 ·have:=h.all
  rw [← List.append_assoc,List.length_append] at this
  omega
theorem oI {α:Type} {R:α→α→Prop} (ht:∀a b c,R a b→R b c→R a c) {l:List α} {x:α} (h:l.Pairwise R) (hl:∀i y,i+1=l.length→l[i]?=some y→R y x):(l++[x]).Pairwise R:=by
 refine w7 ht fun i a b ha hb=> ?_
 rcases Nat.lt_trichotomy (i+1) l.length with k|k|k
 ·rw [List.getElem?_append_left (by omega)] at ha
  rw [List.getElem?_append_left k] at hb
  exact jY h ha hb
 ·rw [List.getElem?_append_left (by omega)] at ha
  rw [List.getElem?_append_right (by omega),k,Nat.sub_self] at hb
  cases hb
  exact hl i a k ha
 ·rw [List.getElem?_append_right (by omega),show i+1-l.length=(i-l.length)+1 by omega] at hb
  cases hb
theorem q8 (n:Nat) (hn:30<n) (a:List Ab) (c:Int) (v:Int) (s:List ByteArray) (p:ByteArray) (L:List ByteArray) (hL:L.length≤12) (hLd:L.Nodup):∃r,A7 (fun y:Int×List ByteArray=>D2 n a 0 c v s (s.length:Int) p y.1 y.2) n ((0),L)=some r∧((¬Uo n L s∧∃z,z≠0∧r=.inr z)∨(Uo n L s∧r=.inl (IntKind.wrap .i64 (v+1),L++s))):=by
 refine Cb (fun y:Int×List ByteArray=>∃j:Nat,j≤s.length∧y=((j:Int),L++s.take j)∧Uo n L (s.take j)) _ (fun y=>13-y.2.length) ?_ n _ ⟨0,Nat.zero_le _,by simp,⟨by simp,by simp,by simpa using hLd,by simpa using hL⟩⟩ (by show 13 - _<n;omega)
 rintro _ ⟨j,hj,rfl,hI⟩
 show (∃y,D2 n a 0 c v s (s.length:Int) p (j:Int) (L++s.take j)=some (.inl y)∧_∧_)∨∃r,D2 n a 0 c v s (s.length:Int) p (j:Int) (L++s.take j)=some (.inr r)∧_
 have hM:=hI.all
 have hjl:j≤12:=by rw [List.length_append,List.length_take] at hM;omega
 rcases Nat.lt_or_ge j s.length with hlt|hge
 ·have hx:s[j]?=some s[j]:=List.getElem?_eq_getElem hlt
  generalize s[j]=x at hx
  have hxm:=List.mem_of_getElem? hx
  have hval:=Yz n (L++s.take j) (by omega) (by omega) x
  have hsp:s.take j++[x]++s.drop (j+1)=s:=by rw [← take_one hx,List.take_append_drop]
  have hleft:Uo n L s→Uo n L (s.take j++[x]):=fun h=>by rw [← hsp] at h;exact h.left
  obtain ⟨b,hb,-⟩:=P4 n (by omega) x
  unfold D2
  rw [decide_eq_true (show (j:Int)<(s.length:Int) by omega),cond_true,Bv hx,Option.bind_some,hb,Option.bind_some]
  cases b with
  |false=>
   refine .inr ⟨_,rfl,.inl ⟨fun h=> ?_,3,by decide,rfl⟩⟩
   have:=h.V1 x hxm
   unfold Vn at this
   rw [hb] at this;cases this
  |true=>
  rw [Bool.not_true,cond_false,hval,Option.bind_some]
  cases hhas:has (L++s.take j) x with
  |true=>
   refine .inr ⟨_,rfl,.inl ⟨fun h=> ?_,7,by decide,rfl⟩⟩
   have:=(hleft h).dup
   rw [← List.append_assoc,List.nodup_append] at this
   exact this.2.2 x (Ib.1 hhas) x (by simp) rfl
  |false=>
  rw [cond_false]
  have hnew:x ∉ L++s.take j:=fun h=>by rw [Ib.2 h] at hhas;cases hhas
  have tail:(∀i y,i+1=j→s[i]?=some y→LeS y x)→((∃y,(bif (((L++s.take j).length:Int)==(12)) then some (.inr (.inr (2))) else (Gl ((L++s.take j).length+([x]:List ByteArray).length) 16).bind fun _=>some (.inl ((IntKind.wrap .i64 ((j:Int)+(1))),((L++s.take j)++([x]:List ByteArray)))):Option ((Int×List ByteArray)⊕((Int×List ByteArray)⊕Int)))=some (.inl y)∧(∃j':Nat,j'≤s.length∧y=((j':Int),L++s.take j')∧Uo n L (s.take j'))∧13-y.2.length<13-(L++s.take j).length)∨∃r,(bif (((L++s.take j).length:Int)==(12)) then some (.inr (.inr (2))) else (Gl ((L++s.take j).length+([x]:List ByteArray).length) 16).bind fun _=>some (.inl ((IntKind.wrap .i64 ((j:Int)+(1))),((L++s.take j)++([x]:List ByteArray)))):Option ((Int×List ByteArray)⊕((Int×List ByteArray)⊕Int)))=some (.inr r)∧((¬Uo n L s∧∃z,z≠0∧r=.inr z)∨(Uo n L s∧r=.inl (IntKind.wrap .i64 (v+1),L++s)))):=by
   intro hadj
   have e:(L++s.take j)++[x]=L++s.take (j+1):=by rw [take_one hx,List.append_assoc]
   have hle:(L++s.take (j+1)).length=(L++s.take j).length+1:=by rw [← e];simp;omega
   by_cases h12:(((L++s.take j).length:Int)=12)
   ·rw [beq_iff_eq.2 h12,cond_true]
    refine .inr ⟨_,rfl,.inl ⟨fun h=> ?_,2,by decide,rfl⟩⟩
    have:=(hleft h).all
    rw [← List.append_assoc,e] at this
    omega
   ·rw [beq_eq_false_iff_ne.2 h12,cond_false,Hj (by simp only [List.length_singleton];omega) (by simp only [List.length_singleton];omega),Option.bind_some,wS (by omega)]
    rw [e]
    refine .inl ⟨_,rfl,⟨j+1,hlt,rfl,?_⟩,by show 13-(L++s.take (j+1)).length<_;omega⟩
    refine ⟨fun y hy=> ?_,?_,?_,by omega⟩
    ·rw [take_one hx] at hy
     rcases List.mem_append.1 hy with k|k
     ·exact hI.V1 y k
     ·rw [List.mem_singleton.1 k];exact hb
    ·rw [take_one hx]
     refine oI Ag3 hI.sor fun i y hi hy=> ?_
     rw [List.length_take] at hi
     rw [List.getElem?_take_of_lt (by omega)] at hy
     exact hadj i y (by omega) hy
    ·rw [← e,List.nodup_append]
     refine ⟨hI.dup,by simp,fun p hp q hq=> ?_⟩
     rw [List.mem_singleton.1 hq]
     rintro rfl
     exact hnew hp
  by_cases hj0:(j:Int)>0
  ·obtain ⟨i,rfl⟩:∃i,j=i+1:=⟨j-1,by omega⟩
   have hw:IntKind.wrap .i64 (((i+1:Nat):Int)-1)=(i:Int):=by rw [wrap64 (by omega) (by omega)];omega
   have hy:s[i]?=some s[i]:=List.getElem?_eq_getElem (by omega)
   rw [decide_eq_true hj0,cond_true,hw,Bv hy,Option.bind_some]
   cases hless:Op.bytesLess x.toList (s[i]).toList with
   |true=>
    refine .inr ⟨_,rfl,.inl ⟨fun h=> ?_,7,by decide,rfl⟩⟩
    have:=jY h.sor hy hx
    unfold LeS at this
    rw [hless] at this;cases this
   |false=>
    rw [cond_false]
    refine tail fun q y hq hyq=> ?_
    obtain rfl:q=i:=by omega
    rw [hy] at hyq
    cases hyq
    exact hless
  ·rw [decide_eq_false hj0,cond_false];exact tail fun i y hi=>by omega
 ·have hj':j=s.length:=by omega
  subst hj'
  unfold D2
  rw [decide_eq_false (Int.lt_irrefl _),cond_false]
  refine .inr ⟨_,rfl,.inr ⟨by rw [List.take_length] at hI;exact hI,by rw [List.take_length]⟩⟩
theorem Gd.left {V:ByteArray→Prop} {l k:List Ab} (h:Gd V (l++k)):Gd V l:=by
 refine ⟨(List.pairwise_append.1 h.pos).1,fun g hg=>h.V1 g (by simp [hg]),?_,?_⟩
 ·have:=h.dup
  rw [List.flatMap_append] at this
  exact (List.nodup_append.1 this).1
 ·have:=h.all
  rw [List.flatMap_append,List.length_append] at this
  omega
theorem U2 {V:ByteArray→Prop}:∀{l:List Ab},(∀g∈l,g.Ak≠[])→l.length≤(l.flatMap (·.Ak)).length
 |[],_=>Nat.le_refl _
 |g::l,h=>by
  have h1:=U2 (V:=V) (l:=l) fun q hq=>h q (by simp [hq])
  have h2:=List.length_pos_iff.2 (h g (by simp))
  rw [List.flatMap_cons,List.length_append,List.length_cons]
  omega
theorem Agx (a b c:Ab) (h1:LtP a b) (h2:LtP b c):LtP a c:=O3 _ _ _ h1 h2
theorem tO (n:Nat) (hn:30<n) (a:List Ab):∃z,o7 n a=some z∧(z=0↔Gd (Vn n) a):=by
 unfold o7
 by_cases hl:(a.length:Int)>12
 ·rw [decide_eq_true hl,cond_true]
  refine ⟨2,rfl,⟨fun h=>absurd h (by decide),fun h=> ?_⟩⟩
  have:=U2 (V:=Vn n) (l:=a) fun g hg=>(h.V1 g hg).2.1
  have:=h.all
  omega
 rw [decide_eq_false hl,cond_false]
 refine Cb (S:=fun y:Int×List ByteArray=>I9 n a (0) (a.length:Int) y.1 y.2) (fun y=>∃i:Nat,i≤a.length∧y=((i:Int),(a.take i).flatMap (·.Ak))∧Gd (Vn n) (a.take i)) (fun z=>z=0↔Gd (Vn n) a) (fun y=>a.length-y.1.toNat) ?_ n _ ⟨0,Nat.zero_le _,rfl,⟨.nil,(by simp),.nil,Nat.zero_le _⟩⟩ (by show a.length-(0:Int).toNat<n;omega)
 rintro _ ⟨i,hi,rfl,hG⟩
 show (∃y,I9 n a (0) (a.length:Int) (i:Int) ((a.take i).flatMap (·.Ak))=some (.inl y)∧_∧_)∨∃r,I9 n a (0) (a.length:Int) (i:Int) ((a.take i).flatMap (·.Ak))=some (.inr r)∧_
 rcases Nat.lt_or_ge i a.length with hlt|hge
 ·have hx:a[i]?=some a[i]:=List.getElem?_eq_getElem hlt
  generalize a[i]=g at hx
  have hgm:=List.mem_of_getElem? hx
  have bad:∀z:Int,z≠0→¬Gd (Vn n) a→(z=0↔Gd (Vn n) a):=fun z h1 h2=>⟨fun h=>absurd h h1,fun h=>absurd h h2⟩
  have hsp:a.take i++[g]++a.drop (i+1)=a:=by rw [← take_one hx,List.take_append_drop]
  have hleft:Gd (Vn n) a→Gd (Vn n) (a.take i++[g]):=fun h=>by rw [← hsp] at h;exact h.left
  obtain ⟨b,hb,-⟩:=P4 n (by omega) g.Position
  unfold I9
  rw [decide_eq_true (show (i:Int)<(a.length:Int) by omega),cond_true,Bv hx,Option.bind_some,hb,Option.bind_some]
  cases b with
  |false=>
   refine .inr ⟨_,rfl,bad 3 (by decide) fun h=> ?_⟩
   have:=(h.V1 g hgm).1
   unfold Vn at this
   rw [hb] at this;cases this
  |true=>
  rw [Bool.not_true,cond_false]
  have tail:(∀q y,q+1=i→a[q]?=some y→LtP y g)→((∃y,(bif ((g.Ak.length:Int)==(0)) then some (.inr (8)) else A7 (fun y:Int×List ByteArray=>D2 n a 0 (a.length:Int) (i:Int) g.Ak (g.Ak.length:Int) g.Position y.1 y.2) n ((0),(a.take i).flatMap (·.Ak)):Option ((Int×List ByteArray)⊕Int))=some (.inl y)∧(∃i':Nat,i'≤a.length∧y=((i':Int),(a.take i').flatMap (·.Ak))∧Gd (Vn n) (a.take i'))∧a.length-y.1.toNat<a.length-(i:Int).toNat)∨∃r,(bif ((g.Ak.length:Int)==(0)) then some (.inr (8)) else A7 (fun y:Int×List ByteArray=>D2 n a 0 (a.length:Int) (i:Int) g.Ak (g.Ak.length:Int) g.Position y.1 y.2) n ((0),(a.take i).flatMap (·.Ak)):Option ((Int×List ByteArray)⊕Int))=some (.inr r)∧(r=0↔Gd (Vn n) a)):=by
   intro hadj
   by_cases h0:(g.Ak.length:Int)=0
   ·rw [beq_iff_eq.2 h0,cond_true]
    exact .inr ⟨_,rfl,bad 8 (by decide) fun h=>(h.V1 g hgm).2.1 (List.length_eq_zero_iff.1 (by omega))⟩
   rw [beq_eq_false_iff_ne.2 h0,cond_false]
   have e:(a.take i).flatMap (·.Ak)++g.Ak=(a.take (i+1)).flatMap (·.Ak):=by rw [take_one hx];simp
   obtain ⟨r,hr,⟨hno,z,hz,rfl⟩|⟨hyes,rfl⟩⟩:=q8 n hn a (a.length:Int) (i:Int) g.Ak g.Position ((a.take i).flatMap (·.Ak)) hG.all hG.dup
   ·refine .inr ⟨z,hr,bad z hz fun h=>hno ?_⟩
    have h1:=hleft h
    have hg:=h.V1 g hgm
    refine ⟨hg.2.2.1,hg.2.2.2,?_,?_⟩
    ·have:=h1.dup
     rw [← take_one hx] at this
     rw [e];exact this
    ·have:=h1.all
     rw [← take_one hx] at this
     rw [e];exact this
   ·rw [wS (by omega)] at hr
    have hd:=hyes.dup
    have ha:=hyes.all
    rw [e] at hr hd ha
    refine .inl ⟨_,hr,⟨i+1,hlt,rfl,⟨?_,fun q hq=> ?_,hd,ha⟩⟩,by show a.length-((i+1:Nat):Int).toNat<_;omega⟩
    ·rw [take_one hx]
     refine oI Agx hG.pos fun q y hq hy=> ?_
     rw [List.length_take] at hq
     rw [List.getElem?_take_of_lt (by omega)] at hy
     exact hadj q y (by omega) hy
    ·rw [take_one hx] at hq
     rcases List.mem_append.1 hq with k|k
     ·exact hG.V1 q k
     ·rw [List.mem_singleton.1 k]
      exact ⟨hb,fun e=>by rw [e] at h0;exact h0 rfl,hyes.V1,hyes.sor⟩
  by_cases hi0:(i:Int)>0
  ·obtain ⟨q,rfl⟩:∃q,i=q+1:=⟨i-1,by omega⟩
   have hw:IntKind.wrap .i64 (((q+1:Nat):Int)-1)=(q:Int):=by rw [wrap64 (by omega) (by omega)];omega
   have hy:a[q]?=some a[q]:=List.getElem?_eq_getElem (by omega)
   rw [decide_eq_true hi0,cond_true,hw,Bv hy,Option.bind_some]
   cases hc:(Op.bytesLess (g.Position).toList ((a[q]).Position).toList||(g.Position).toList==((a[q]).Position).toList) with
   |true=>
    refine .inr ⟨_,rfl,bad 7 (by decide) fun h=> ?_⟩
    have:=jY h.pos hy hx
    unfold LtP at this
    rcases Bool.or_eq_true_iff.1 hc with k|k
    ·rw [Ue _ _ k] at this;cases this
    ·rw [beq_iff_eq.1 k,Vc] at this;cases this
   |false=>
    rw [cond_false]
    refine tail fun j y hj hyj=> ?_
    obtain rfl:j=q:=by omega
    rw [hy] at hyj
    cases hyj
    rw [Bool.or_eq_false_iff] at hc
    rcases L3 (a[j]).Position.toList g.Position.toList with k|k|k
    ·exact k
    ·rw [k] at hc;cases hc.1
    ·rw [k] at hc;simp at hc
  ·rw [decide_eq_false hi0,cond_false];exact tail fun j y hj=>by omega
 ·have hi':i=a.length:=by omega
  subst hi'
  unfold I9
  rw [decide_eq_false (Int.lt_irrefl _),cond_false]
  rw [List.take_length] at hG
  exact .inr ⟨_,rfl,fun _=>hG,fun _=>rfl⟩
theorem Gd.ok {n:Nat} (hn:30<n) {a:List Ab} (h:Gd (Vn n) a):o7 n a=some 0∧iF a:=by
 obtain ⟨z,hz,k⟩:=tO n hn a
 obtain ⟨y,hy,k2⟩:=cK n hn a
 obtain rfl:=k.2 h
 rw [hz] at hy
 cases hy
 exact ⟨hz,k2 rfl⟩
theorem Ah6:∀a b:List UInt8,decide (Go.Lib.compareBytes a b<0)=Op.bytesLess a b
 |[],[]=>rfl
 |[],_::_=>rfl
 |_::_,[]=>rfl
 |a::r,b::s=>by
  have ih:=Ah6 r s
  unfold Go.Lib.compareBytes Op.bytesLess
  rcases Nat.lt_trichotomy a.toNat b.toNat with h|h|h
  ·have h':a<b:=h
   rw [if_pos h']
   simp [h']
  ·have:a=b:=UInt8.toNat_inj.1 h
   subst this
   rw [if_neg (UInt8.lt_irrefl _),if_neg (UInt8.lt_irrefl _),ih]
   simp
  ·have h':b<a:=h
   have h2:¬a<b:=fun k=>UInt8.lt_irrefl _ (UInt8.lt_trans k h')
   have h3:a≠b:=fun k=>by subst k;exact UInt8.lt_irrefl _ h'
   rw [if_neg h2,if_pos h']
   simp [h2,h3]
abbrev tL (a b:Ab):Option Int:=some (Go.Lib.compareBytes a.Position.data.toList b.Position.data.toList)
theorem Qc (a b:Ab):K9 tL a b=Op.bytesLess a.Position.toList b.Position.toList:=by
 unfold K9 tL
 rw [Option.getD_some,Ah6,ByteArray.toList_eq,ByteArray.toList_eq]
theorem fG {K:List Ab} (hn:(K.map (·.Position)).Nodup) (hK:K.length<4611686018427387904):∃R,Gs tL K=some R∧R.Perm K∧R.Pairwise fun a b=>Op.bytesLess b.Position.toList a.Position.toList=false:=by
 have ho:Ql tL K:=by
  refine ⟨fun x _ y _=>⟨_,rfl⟩,fun x hx y hy=> ?_,fun x _ y _ h=> ?_,fun x _ y _ z _ h1 h2=> ?_⟩
  ·rw [Qc,Qc]
   rcases L3 x.Position.toList y.Position.toList with k|k|k
   ·exact .inl k
   ·exact .inr (.inl k)
   ·exact .inr (.inr (Ms hn hx hy (str_inj k)))
  ·rw [Qc] at*;exact Ue _ _ h
  ·rw [Qc] at*;exact O3 _ _ _ h1 h2
 have e:Gs tL K=some (Oa (K9 tL) K):=by
  unfold Gs
  rw [Ra.2 ho,decide_eq_true hK];rfl
 obtain ⟨p1,p2,-⟩:=Ho e
 exact ⟨_,e,p1,p2.imp fun h=>by rwa [Qc] at h⟩
def Q8 (p:ByteArray) (g:Ab):Bool:=g.Position.toList==p.toList
theorem Z4 {p:ByteArray} {g:Ab}:Q8 p g=true↔g.Position=p:=by
 unfold Q8
 constructor
 ·exact fun h=>str_inj (beq_iff_eq.1 h)
 ·rintro rfl;simp
theorem Ac4 (n:Nat) (l:List Ab) (hl:l.length<n) (hl2:l.length≤1000) (p:ByteArray):pH n l p=some (Dq (Q8 p) l):=by
 unfold pH
 refine Jb (Q8 p) l (by omega) (S:=fun y:Int=>Lr n l p (0) (l.length:Int) y) (fun i x hx=> ?_) ?_ n hl
 ·have:=Dt hx
  unfold Lr
  rw [decide_eq_true (show (i:Int)<_ by omega),cond_true,Bv hx,Option.bind_some,wS (by omega)]
  unfold Q8
  cases h:x.Position.toList==p.toList<;>simp [wK,h]
 ·unfold Lr
  rw [decide_eq_false (Int.lt_irrefl _)];rfl
theorem M5 (n:Nat) (l:List Ab) (hl:l.length<n) (hl2:l.length≤1000) (p:ByteArray):g47 n l p=some (Dq (Q8 p) l):=by
 unfold g47
 rw [Ac4 n l hl hl2 p];rfl
theorem T6 {l:List Ab} {p:ByteArray}:Dq (Q8 p) l<0↔∀g∈l,g.Position≠p:=by
 rw [Mb]
 constructor
 ·intro h g hg e
  have:=h g hg
  rw [Z4.2 e] at this;cases this
 ·intro h g hg
  cases k:Q8 p g with
  |false=>rfl
  |true=>exact absurd (Z4.1 k) (h g hg)
theorem Tu {l:List Ab} {p:ByteArray} (h:¬Dq (Q8 p) l<0):∃x,l[(Dq (Q8 p) l).toNat]?=some x∧x.Position=p:=by
 obtain ⟨x,h1,h2,-⟩:=Z1 (Q8 p) l (by omega)
 exact ⟨x,h1,Z4.1 h2⟩
theorem gG:Gc=has:=rfl
theorem vV (n:Nat) (hn:30<n) {l:List Ab} (h:Gd (Vn n) l) (to from_:ByteArray):∃R c,g8 n l to from_=some (R,c)∧(c=0→∃x y z,dZ l R x y z∧x.Position=to∧y.Position=from_)∧((∃g∈l,g.Position=to)→(∃g∈l,g.Position=from_)→to≠from_→c=0):=by
 obtain ⟨hc,hk⟩:=h.ok hn
 have hlen:=hk.len
 unfold g8
 rw [hc,Option.bind_some,show ((0:Int) !=0)=false from rfl,cond_false,M5 n l (by omega) (by omega),Option.bind_some,M5 n l (by omega) (by omega),Option.bind_some]
 by_cases hi:Dq (Q8 to) l<0
 ·rw [if_pos (.inl hi)]
  refine ⟨_,_,rfl,fun e=>absurd e (by decide),fun ⟨g,hg,e⟩=>absurd e (T6.1 hi g hg)⟩
 by_cases hj:Dq (Q8 from_) l<0
 ·rw [if_pos (.inr hj)]
  refine ⟨_,_,rfl,fun e=>absurd e (by decide),fun _ ⟨g,hg,e⟩=>absurd e (T6.1 hj g hg)⟩
 rw [if_neg (show ¬(Dq (Q8 to) l<0∨Dq (Q8 from_) l<0) by omega)]
 obtain ⟨x,hx,hx2⟩:=Tu hi
 obtain ⟨y,hy,hy2⟩:=Tu hj
 by_cases hij:Dq (Q8 to) l=Dq (Q8 from_) l
 ·rw [if_pos hij]
  refine ⟨_,_,rfl,fun e=>absurd e (by decide),fun _ _ e=>absurd ?_ e⟩
  rw [hij,hy] at hx
  cases hx
  rw [← hx2,hy2]
 rw [if_neg hij,hx,Option.bind_some,hy,Option.bind_some]
 have h1:=Jo (List.mem_of_getElem? hx)
 have h2:=Jo (List.mem_of_getElem? hy)
 have:=hk.all
 rw [if_pos ⟨by omega,by omega,fun g hg=>⟨by have:=Jo hg;omega,List.length_pos_iff.2 (hk.grp g hg).2⟩⟩]
 refine ⟨_,_,rfl,fun _=>⟨x,y,_,Ae7 h hx hy (by omega) rfl (Kz _) (Ox _),hx2,hy2⟩,fun _ _ _=>rfl⟩
theorem tF (n:Nat) (hn:30<n) {l:List Ab} (h:Gd (Vn n) l) (from_ to:ByteArray) (names:List ByteArray) (hN:names.length<n) (hN2:names.length≤4611686018427387904):∃R c,g9 n l from_ to names=some (R,c)∧(c=0→∃x u v,Spl l R x u v (has names)∧x.Position=from_∧v.Position=to∧Vn n to)∧(∀x∈l,x.Position=from_→Vn n to→(∀g∈l,g.Position≠to)→(∀s∈names,s∈x.Ak)→(∃s∈x.Ak,s∈names)→(∃s∈x.Ak,s ∉ names)→c=0):=by
 obtain ⟨hc,hk⟩:=h.ok hn
 have hlen:=hk.len
 unfold g9
 rw [hc,Option.bind_some,show ((0:Int) !=0)=false from rfl,cond_false,M5 n l (by omega) (by omega),Option.bind_some]
 by_cases hi:Dq (Q8 from_) l<0
 ·rw [if_pos hi]
  exact ⟨_,_,rfl,fun e=>absurd e (by decide),fun x hx e=>absurd e (T6.1 hi x hx)⟩
 rw [if_neg hi]
 obtain ⟨x,hx,hx2⟩:=Tu hi
 have hxm:=List.mem_of_getElem? hx
 have same:∀x'∈l,x'.Position=from_→x'=x:=fun x' h1 h2=>Ms (Vv h.pos) h1 hxm (by rw [h2,hx2])
 obtain ⟨b,hb,-⟩:=P4 n (by omega) to
 rw [hb,Option.bind_some]
 cases b with
 |false=>
  rw [Bool.not_false,cond_true]
  refine ⟨_,_,rfl,fun e=>absurd e (by decide),fun x hx e hv=> ?_⟩
  unfold Vn at hv
  rw [hb] at hv;cases hv
 |true=>
 rw [Bool.not_true,cond_false,M5 n l (by omega) (by omega),Option.bind_some]
 by_cases hj:Dq (Q8 to) l<0
 case neg=>
  rw [if_pos (show Dq (Q8 to) l≥0 by omega)]
  obtain ⟨y,hy,hy2⟩:=Tu hj
  exact ⟨_,_,rfl,fun e=>absurd e (by decide),fun _ _ _ _ q=>absurd hy2 (q y (List.mem_of_getElem? hy))⟩
 rw [if_neg (show ¬Dq (Q8 to) l≥0 by omega),hx,Option.bind_some]
 have h1:=Jo hxm
 have h2:=hk.all
 rw [gG]
 by_cases hbad:names.all (has x.Ak)=true
 case neg=>
  rw [Bool.eq_false_iff.2 hbad,Bool.not_false,cond_true]
  refine ⟨_,_,rfl,fun e=>absurd e (by decide),fun x' h1 h2 _ _ q=>absurd ?_ hbad⟩
  rw [List.all_eq_true]
  intro s hs
  have:=q s hs
  rw [same x' h1 h2] at this
  exact Ib.2 this
 rw [hbad,Bool.not_true,cond_false]
 rw [if_pos ⟨by omega,by omega,fun g hg=>⟨by have:=Jo hg;omega,List.length_pos_iff.2 (hk.grp g hg).2⟩⟩]
 have hadd:=(List.filter_append_perm (has names) x.Ak).length_eq
 rw [List.length_append] at hadd
 by_cases hs:(x.Ak.filter (has names)).length=0∨(x.Ak.filter (has names)).length=x.Ak.length
 ·rw [if_pos hs]
  refine ⟨_,_,rfl,fun e=>absurd e (by decide),fun x' h1 h2 _ _ _ q1 q2=> ?_⟩
  rw [same x' h1 h2] at q1 q2
  obtain ⟨s,a1,a2⟩:=q1
  obtain ⟨t,b1,b2⟩:=q2
  have c1:s∈x.Ak.filter (has names):=List.mem_filter.2 ⟨a1,Ib.2 a2⟩
  have c2:t∈x.Ak.filter fun s=> !has names s:=List.mem_filter.2 ⟨b1,by
   cases q:has names t with
   |false=>rfl
   |true=>exact absurd (Ib.1 q) b2⟩
  have d1:=List.length_pos_of_mem c1
  have d2:=List.length_pos_of_mem c2
  omega
 rw [if_neg hs]
 have hset:=set_perm (z:=(⟨x.Position,x.Ak.filter fun s=> !has names s⟩:Ab)) hx
 have hperm:(l.set (Dq (Q8 from_) l).toNat (⟨x.Position,x.Ak.filter fun s=> !has names s⟩:Ab)++[(⟨to,x.Ak.filter (has names)⟩:Ab)]).Perm ((⟨x.Position,x.Ak.filter fun s=> !has names s⟩:Ab)::⟨to,x.Ak.filter (has names)⟩::l.eraseIdx (Dq (Q8 from_) l).toNat):=by
  refine (hset.append_right _).trans ?_
  rw [List.cons_append]
  exact (List.perm_append_comm).cons _
 have hnd:((l.set (Dq (Q8 from_) l).toNat (⟨x.Position,x.Ak.filter fun s=> !has names s⟩:Ab)++[(⟨to,x.Ak.filter (has names)⟩:Ab)]).map (·.Position)).Nodup:=by
  refine (hperm.map _).nodup_iff.2 ?_
  have nx:((x::l.eraseIdx (Dq (Q8 from_) l).toNat).map (·.Position)).Nodup:=((G7 hx).map _).nodup_iff.2 (Vv h.pos)
  rw [List.map_cons,List.nodup_cons] at nx
  rw [List.map_cons,List.map_cons,List.nodup_cons,List.nodup_cons]
  have hv:∀g∈x::l.eraseIdx (Dq (Q8 from_) l).toNat,g.Position≠to:=fun g hg=>T6.1 hj g ((G7 hx).mem_iff.1 hg)
  refine ⟨fun q=> ?_,fun q=> ?_,nx.2⟩
  ·rcases List.mem_cons.1 q with e|e
   ·exact hv x (by simp) e
   ·exact nx.1 e
  ·obtain ⟨g,hg,e⟩:=List.mem_map.1 q
   exact hv g (by simp [hg]) e
 obtain ⟨R,hR,hR2,hR3⟩:=fG hnd (by rw [List.length_append,List.length_set];simp;omega)
 rw [show (Gs (fun a b:Ab=>some (Go.Lib.compareBytes a.Position.data.toList b.Position.data.toList)) (l.set (Dq (Q8 from_) l).toNat (⟨x.Position,x.Ak.filter fun s=> !has names s⟩:Ab)++[(⟨to,x.Ak.filter (has names)⟩:Ab)]))=some R from hR,Option.map_some]
 refine ⟨R,0,rfl,fun _=>⟨x,_,_,⟨⟨_,G7 hx,hR2.trans hperm⟩,rfl,rfl,rfl,?_,?_,T6.1 hj,hR3⟩,hx2,rfl,hb⟩,fun _ _ _ _ _ _ _ _=>rfl⟩
 ·intro e
  have:=congrArg List.length e
  simp only [List.length_nil] at this
  omega
 ·intro e
  have:=congrArg List.length e
  simp only [List.length_nil] at this
  omega
theorem j8 (n:Nat) (hn:30<n) {l:List Ab} (h:Gd (Vn n) l):g13 n l=some (nms l,0):=rH n hn l (h.ok hn).1 (h.ok hn).2
theorem Agj {V:ByteArray→Prop} {l:List Ab} (h:Gd V l) {p s:ByteArray} (ho:Mk l p s):fnd l s=p:=by
 unfold fnd
 cases hf:l.find? (fun g=> !(!has g.Ak s)) with
 |some q=>
  have h1:=List.mem_of_find?_eq_some hf
  have h2:=List.find?_some hf
  exact kX h.dup ⟨q,h1,rfl,Ib.1 (by simpa using h2)⟩ ho
 |none=>
  obtain ⟨g,hg,-,hs⟩:=ho
  have:=List.find?_eq_none.1 hf g hg
  rw [Ib.2 hs] at this
  simp at this
end Go.Proofs.YtmechmjjcgdpdaaGreatDoor
