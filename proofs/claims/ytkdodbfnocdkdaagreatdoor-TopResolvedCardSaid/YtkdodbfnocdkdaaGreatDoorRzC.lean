/- A part. -/
import Derived.Test.YtkdodbfnocdkdaaGreatDoorRzA
import Derived.Test.YtkdodbfnocdkdaaGreatDoorAtK
set_option linter.unusedVariables false
set_option linter.unusedSimpArgs false
set_option maxHeartbeats 4000000
namespace Go.Proofs.YtkdodbfnocdkdaaGreatDoor
def Sb (ok:Int×Int→Prop) (P J:List (Int×Int)):Prop:=J.Sublist P∧∀p∈J,ok p
theorem Sb.skip {ok:Int×Int→Prop} {P J:List (Int×Int)} {a:Int×Int} (h:Sb ok P J):Sb ok (P++[a]) J:=⟨h.1.trans (List.sublist_append_left P [a]),h.2⟩
theorem Sb.add {ok:Int×Int→Prop} {P J:List (Int×Int)} {a:Int×Int} (h:Sb ok P J) (ha:ok a):Sb ok (P++[a]) (J++[a]):=
 ⟨h.1.append (List.Sublist.refl _),fun p hp=>by
  rcases List.mem_append.1 hp with h1|h1
  ·exact h.2 p h1
  ·rw [List.mem_singleton.1 h1];exact ha⟩
theorem Sb.len {ok:Int×Int→Prop} {P J:List (Int×Int)} (h:Sb ok P J):J.length≤P.length:=h.1.length_le
def cf (call:ByteArray) (H S A:Int) (p:Int×Int):Ae:=
 if p.1=0 then ⟨call,0,H+1000*p.2,⟨#[]⟩⟩ else if p.1=2 then ⟨call,2,S+15*p.2,⟨#[]⟩⟩ else ⟨call,1,(A+171*p.2) % 4096,⟨#[]⟩⟩
def jU (H S:Int) (k:Dg) (p:Int×Int):Prop:=(p.1=0→0≤H+1000*p.2∧H+1000*p.2≤k.B8)∧(p.1=2→k.Eg≤S+15*p.2∧S+15*p.2≤k.Eh)
theorem cN (n:Nat) (a:Int):O5 n a=some (a % 4096):=by
 unfold O5
 have h1:Int.tmod a 4096=if 0≤a then a % 4096 else -((-a) % 4096):=by
  by_cases h:0≤a
  ·rw [if_pos h,Int.tmod_eq_emod_of_nonneg h]
  ·rw [if_neg h,← Int.tmod_eq_emod_of_nonneg (show 0≤-a by omega),Int.neg_tmod,Int.neg_neg]
 have h2: -4096<Int.tmod a 4096∧Int.tmod a 4096<4096:=by rw [h1];split<;>omega
 rw [wrap64 (by omega) (by omega),Int.tmod_eq_emod_of_nonneg (show 0≤Int.tmod a 4096+4096 by omega)]
 have e:(Int.tmod a 4096+4096) % 4096=a % 4096:=by
  rw [h1]
  by_cases h:0≤a
  ·rw [if_pos h];omega
  ·rw [if_neg h];omega
 rw [e]
theorem tT (a b:Int):Ch [a,b] 0=some a:=rfl
theorem rI (a b:Int):Ch [a,b] 1=some b:=rfl
theorem Sv {ρ:Type} {S:Int×List Ae×ByteArray→Option ((Int×List Ae×ByteArray)⊕ρ)} {f:Int×Int→Ae} {call:ByteArray} {ok:Int×Int→Prop} {P:List (Int×Int)} {a b:Int×Int} {Q:ρ→Prop} {n:Nat} (hn:2<n)
  (h0:∀J,Sb ok P J→∃J',Sb ok (P++[a]) J'∧S (0,J.map f,call)=some (.inl (1,J'.map f,call)))
  (h1:∀J,Sb ok (P++[a]) J→∃J',Sb ok (P++[a]++[b]) J'∧S (1,J.map f,call)=some (.inl (2,J'.map f,call)))
  (h2:∀J,Sb ok (P++[a]++[b]) J→∃r,S (2,J.map f,call)=some (.inr r)∧Q r) {J:List (Int×Int)} (hJ:Sb ok P J):∃r,Bw S n (0,J.map f,call)=some r∧Q r:=by
 obtain ⟨m,rfl⟩:∃m,n=m+3:=⟨n-3,by omega⟩
 obtain ⟨J1,k1,e1⟩:=h0 J hJ
 obtain ⟨J2,k2,e2⟩:=h1 J1 k1
 obtain ⟨r,e3,q⟩:=h2 J2 k2
 refine ⟨r,?_,q⟩
 unfold Bw
 rw [e1]
 show Bw S (m+2) _=_
 unfold Bw
 rw [e2]
 show Bw S (m+1) _=_
 unfold Bw
 rw [e3]
section
variable (n:Nat) (hn:4100<n) (call:ByteArray) (S A:Int) (mv:Bool) (k:Dg) (x:Ab) (hx:0≤x.Af∧x.Af≤60000) (hS:0≤S∧S≤3000000) (hA:0≤A∧A≤4095) {r:Int} (hr:1≤r∧r≤3)
theorem Y3 {J P:List (Int×Int)} {ok:Int×Int→Prop} {f:Int×Int→Ae} {c:Ae} (h:Sb ok P J) (hP:P.length≤1000):D0 ((J.map f).length+([c]:List Ae).length) 48=some ():=by
 have:=h.len
 refine Fk ?_ ?_<;>(simp only [List.length_map,List.length_cons,List.length_nil];omega)
include hn hA hr in
theorem Aoc {P J:List (Int×Int)} (hP:P.length≤100) (hJ:Sb (jU x.Af S k) P J):∃q,Bw (fun y:Int×List Ae×ByteArray=>Lr n 0 A S mv r (IntKind.wrap .i64 (A+(IntKind.wrap .i64 ((171)*r)))) (IntKind.wrap .i64 (A-(IntKind.wrap .i64 ((171)*r)))) k.Name k.Fa k.B8 k.C5 k.Cb k.Eg k.Eh x.Ac x.Ak x.Aj x.Af x.Aw x.Bi y.1 y.2.1 y.2.2) n (0,J.map (cf call x.Af S A),call)=some q∧
  ∃J',Sb (jU x.Af S k) (P++[(1,r)]++[(1,-r)]) J'∧q=.inl (r+1,J'.map (cf call x.Af S A),call):=by
 refine Sv (a:=(1,r)) (b:=(1,-r)) (by omega) (fun J hJ=>⟨J++[(1,r)],hJ.add ⟨fun h=>absurd h (show ¬(1:Int)=0 by decide),fun h=>absurd h (show ¬(1:Int)=2 by decide)⟩,?_⟩) (fun J hJ=>⟨J++[(1,-r)],hJ.add ⟨fun h=>absurd h (show ¬(1:Int)=0 by decide),fun h=>absurd h (show ¬(1:Int)=2 by decide)⟩,?_⟩) (fun J hJ=> ?_) hJ
 ·dsimp only
  unfold Lr
  rw [decide_eq_true (by decide),cond_true,wrap64 (z:=171*r) (by omega) (by omega),wrap64 (by omega) (by omega)]
  rw [tT,Option.bind_some,cN,Option.bind_some,Y3 hJ (by omega),Option.bind_some,List.map_append]
  rfl
 ·dsimp only
  unfold Lr
  rw [decide_eq_true (by decide),cond_true,wrap64 (z:=171*r) (by omega) (by omega),wrap64 (z:=A-171*r) (by omega) (by omega)]
  rw [rI,Option.bind_some,cN,Option.bind_some,Y3 hJ (by rw [List.length_append];simp only [List.length_cons,List.length_nil];omega),Option.bind_some,List.map_append]
  have e:cf call x.Af S A (1,-r)=⟨call,1,(A-171*r) % 4096,⟨#[]⟩⟩:=by
   show (⟨call,1,(A+171* -r) % 4096,⟨#[]⟩⟩:Ae)=_
   rw [show A+171* -r=A-171*r by omega]
  rw [List.map_cons,List.map_nil,e]
  rfl
 ·refine ⟨_,?_,J,hJ,rfl⟩
  dsimp only
  unfold Lr
  rw [decide_eq_false (by decide),cond_false,wrap64 (by omega) (by omega)]
include hn hS hA hr in
theorem Al3 {P J:List (Int×Int)} (hP:P.length≤90) (hJ:Sb (jU x.Af S k) P J):∃q,Bw (fun y:Int×List Ae×ByteArray=>Ln n 0 A S mv r (IntKind.wrap .i64 (S+(IntKind.wrap .i64 ((15)*r)))) (IntKind.wrap .i64 (S-(IntKind.wrap .i64 ((15)*r)))) k.Name k.Fa k.B8 k.C5 k.Cb k.Eg k.Eh x.Ac x.Ak x.Aj x.Af x.Aw x.Bi y.1 y.2.1 y.2.2) n (0,J.map (cf call x.Af S A),call)=some q∧
  ∃J',Sb (jU x.Af S k) (P++[(2,r)]++[(2,-r)]++[(1,r)]++[(1,-r)]) J'∧q=.inl (r+1,J'.map (cf call x.Af S A),call):=by
 have step:∀(w v:Int) (a:Int×Int) (P J:List (Int×Int)),P.length≤100→Sb (jU x.Af S k) P J→a.1=2→v=S+15*a.2→∀z:Int,∃J',Sb (jU x.Af S k) (P++[a]) J'∧
   (bif decide (v≥k.Eg) then (bif decide (v≤k.Eh) then ((D0 ((J.map (cf call x.Af S A)).length+([(⟨call,(2),v,(⟨#[]⟩:ByteArray)⟩:Ae)]:List Ae).length) 48).bind fun x752=>
    some (.inl (z,((J.map (cf call x.Af S A))++([(⟨call,(2),v,(⟨#[]⟩:ByteArray)⟩:Ae)]:List Ae)),call))) else some (.inl (z,J.map (cf call x.Af S A),call))) else (some (.inl (z,J.map (cf call x.Af S A),call)):Option ((Int×List Ae×ByteArray)⊕((Int×List Ae×ByteArray)⊕((List Ae)×Int)))))=some (.inl (z,J'.map (cf call x.Af S A),call)):=fun w v a P J hP hJ ha hv z=>by
  by_cases c1:v≥k.Eg
  ·rw [decide_eq_true c1,cond_true]
   by_cases c2:v≤k.Eh
   ·refine ⟨J++[a],hJ.add ⟨fun h=>absurd (ha.symm.trans h) (by decide),fun _=>by omega⟩,?_⟩
    rw [decide_eq_true c2,cond_true,Y3 hJ (by omega),Option.bind_some,List.map_append,List.map_cons,List.map_nil,cf,if_neg (by omega),if_pos ha,hv]
   ·exact ⟨J,hJ.skip,by rw [decide_eq_false c2,cond_false]⟩
  ·exact ⟨J,hJ.skip,by rw [decide_eq_false c1,cond_false]⟩
 refine Sv (a:=(2,r)) (b:=(2,-r)) (by omega) (fun J hJ=> ?_) (fun J hJ=> ?_) (fun J hJ=> ?_) hJ
 ·dsimp only
  unfold Ln
  rw [decide_eq_true (by decide),cond_true,wrap64 (z:=15*r) (by omega) (by omega),wrap64 (z:=S+15*r) (by omega) (by omega),tT,Option.bind_some]
  exact step 0 (S+15*r) (2,r) P J (by omega) hJ rfl rfl 1
 ·dsimp only
  unfold Ln
  rw [decide_eq_true (by decide),cond_true,wrap64 (z:=15*r) (by omega) (by omega),wrap64 (z:=S-15*r) (by omega) (by omega),rI,Option.bind_some]
  exact step 1 (S-15*r) (2,-r) (P++[(2,r)]) J (by rw [List.length_append];simp only [List.length_cons,List.length_nil];omega) hJ rfl (by show S-15*r=S+15* -r;omega) 2
 ·obtain ⟨q,e,J',h1,h2⟩:=Aoc n hn call S A mv k x hA hr (P:=P++[(2,r)]++[(2,-r)]) (by simp only [List.length_append,List.length_cons,List.length_nil];omega) hJ
  refine ⟨q,?_,J',h1,h2⟩
  dsimp only
  unfold Ln
  rw [decide_eq_false (by decide),cond_false,e]
  rfl
def six (r:Int):List (Int×Int):=[(0,r),(0,-r),(2,r),(2,-r),(1,r),(1,-r)]
include hn hx hS hA hr in
theorem Aoz {P J:List (Int×Int)} (hP:P.length≤80) (hJ:Sb (jU x.Af S k) P J):∃q,Bw (fun y:Int×List Ae×ByteArray=>Ki n 0 A S mv r (IntKind.wrap .i64 (x.Af+(IntKind.wrap .i64 ((1000)*r)))) (IntKind.wrap .i64 (x.Af-(IntKind.wrap .i64 ((1000)*r)))) k.Name k.Fa k.B8 k.C5 k.Cb k.Eg k.Eh x.Ac x.Ak x.Aj x.Af x.Aw x.Bi y.1 y.2.1 y.2.2) n (0,J.map (cf call x.Af S A),call)=some q∧
  ∃J',Sb (jU x.Af S k) (P++six r) J'∧q=.inl (r+1,J'.map (cf call x.Af S A),call):=by
 have step:∀(w v:Int) (a:Int×Int) (P J:List (Int×Int)),P.length≤100→Sb (jU x.Af S k) P J→a.1=0→v=x.Af+1000*a.2→∀z:Int,∃J',Sb (jU x.Af S k) (P++[a]) J'∧
   (bif decide (v≥0) then (bif decide (v≤k.B8) then ((D0 ((J.map (cf call x.Af S A)).length+([(⟨call,(0),v,(⟨#[]⟩:ByteArray)⟩:Ae)]:List Ae).length) 48).bind fun x752=>
    some (.inl (z,((J.map (cf call x.Af S A))++([(⟨call,(0),v,(⟨#[]⟩:ByteArray)⟩:Ae)]:List Ae)),call))) else some (.inl (z,J.map (cf call x.Af S A),call))) else (some (.inl (z,J.map (cf call x.Af S A),call)):Option ((Int×List Ae×ByteArray)⊕((Int×List Ae×ByteArray)⊕((List Ae)×Int)))))=some (.inl (z,J'.map (cf call x.Af S A),call)):=fun w v a P J hP hJ ha hv z=>by
  by_cases c1:v≥0
  ·rw [decide_eq_true c1,cond_true]
   by_cases c2:v≤k.B8
   ·refine ⟨J++[a],hJ.add ⟨fun _=>by omega,fun h=>absurd (ha.symm.trans h) (by decide)⟩,?_⟩
    rw [decide_eq_true c2,cond_true,Y3 hJ (by omega),Option.bind_some,List.map_append,List.map_cons,List.map_nil,cf,if_pos ha,hv]
   ·exact ⟨J,hJ.skip,by rw [decide_eq_false c2,cond_false]⟩
  ·exact ⟨J,hJ.skip,by rw [decide_eq_false c1,cond_false]⟩
 refine Sv (a:=(0,r)) (b:=(0,-r)) (by omega) (fun J hJ=> ?_) (fun J hJ=> ?_) (fun J hJ=> ?_) hJ
 ·dsimp only
  unfold Ki
  rw [decide_eq_true (by decide),cond_true,wrap64 (z:=1000*r) (by omega) (by omega),wrap64 (z:=x.Af+1000*r) (by omega) (by omega),tT,Option.bind_some]
  exact step 0 (x.Af+1000*r) (0,r) P J (by omega) hJ rfl rfl 1
 ·dsimp only
  unfold Ki
  rw [decide_eq_true (by decide),cond_true,wrap64 (z:=1000*r) (by omega) (by omega),wrap64 (z:=x.Af-1000*r) (by omega) (by omega),rI,Option.bind_some]
  exact step 1 (x.Af-1000*r) (0,-r) (P++[(0,r)]) J (by rw [List.length_append];simp only [List.length_cons,List.length_nil];omega) hJ rfl (by show x.Af-1000*r=x.Af+1000* -r;omega) 2
 ·have e6:P++six r=P++[(0,r)]++[(0,-r)]++[(2,r)]++[(2,-r)]++[(1,r)]++[(1,-r)]:=by simp [six]
  cases mv with
  |false=>
   refine ⟨.inl (r+1,J.map (cf call x.Af S A),call),?_,J,?_,rfl⟩
   ·dsimp only
    unfold Ki
    rw [decide_eq_false (by decide),cond_false,wrap64 (z:=r+1) (by omega) (by omega)]
    rfl
   ·rw [e6]
    exact hJ.skip.skip.skip.skip
  |true=>
   obtain ⟨q,e,J',h1,h2⟩:=Al3 n hn call S A true k x hS hA hr (P:=P++[(0,r)]++[(0,-r)]) (by simp only [List.length_append,List.length_cons,List.length_nil];omega) hJ
   refine ⟨q,?_,J',by rw [e6];exact h1,h2⟩
   dsimp only
   unfold Ki
   rw [decide_eq_false (by decide),cond_false,e]
   rfl
include hn hx hS hA in
theorem rounds:∃J,Sb (jU x.Af S k) (six 1++six 2++six 3) J∧Bw (fun y:Int×List Ae×ByteArray=>Vc n (0) A S mv k.Name k.Fa k.B8 k.C5 k.Cb k.Eg k.Eh x.Ac x.Ak x.Aj x.Af x.Aw x.Bi y.1 y.2.1 y.2.2) n ((1),[],call)=some (J.map (cf call x.Af S A),0):=by
 have round:∀(r:Int) (hr:1≤r∧r≤3) (P J:List (Int×Int)),P.length≤80→Sb (jU x.Af S k) P J→∃J',Sb (jU x.Af S k) (P++six r) J'∧Vc n (0) A S mv k.Name k.Fa k.B8 k.C5 k.Cb k.Eg k.Eh x.Ac x.Ak x.Aj x.Af x.Aw x.Bi r (J.map (cf call x.Af S A)) call=some (.inl (r+1,J'.map (cf call x.Af S A),call)):=fun r hr P J hP hJ=>by
  obtain ⟨q,e,J',h1,rfl⟩:=Aoz n hn call S A mv k x hx hS hA hr hP hJ
  refine ⟨J',h1,?_⟩
  unfold Vc
  rw [decide_eq_true hr.2,cond_true,e]
 obtain ⟨m,rfl⟩:∃m,n=m+4:=⟨n-4,by omega⟩
 obtain ⟨J1,k1,e1⟩:=round 1 ⟨by decide,by decide⟩ [] [] (by decide) ⟨List.Sublist.refl _,fun p hp=>by cases hp⟩
 obtain ⟨J2,k2,e2⟩:=round 2 ⟨by decide,by decide⟩ _ J1 (by decide) k1
 obtain ⟨J3,k3,e3⟩:=round 3 ⟨by decide,by decide⟩ _ J2 (by decide) k2
 refine ⟨J3,k3,?_⟩
 rw [List.map_nil] at e1
 unfold Bw
 rw [e1]
 show Bw _ (m+3) ((2:Int),_,_)=_
 unfold Bw
 dsimp only
 rw [e2]
 show Bw _ (m+2) ((3:Int),_,_)=_
 unfold Bw
 dsimp only
 rw [e3]
 show Bw _ (m+1) ((4:Int),_,_)=_
 unfold Bw
 dsimp only
 unfold Vc
 rw [decide_eq_false (by decide),cond_false]
end
def dom (p:Int×Int):Prop:=(p.1=0∨p.1=1∨p.1=2)∧-3≤p.2∧p.2≤3
def full:List (Int×Int):=six 1++six 2++six 3
theorem zA:∀p∈full,dom p:=by
 have h:(full.all fun p=>decide ((p.1=0∨p.1=1∨p.1=2)∧-3≤p.2∧p.2≤3))=true:=by decide
 intro p hp
 exact of_decide_eq_true (p:=(p.1=0∨p.1=1∨p.1=2)∧-3≤p.2∧p.2≤3) (List.all_eq_true.1 h p hp)
theorem oJ {n:Nat} {call:ByteArray} (hn:16<n) (h:Po n ⟨call,0,0,⟨#[]⟩⟩=some 0):Su n call=some true:=by
 obtain ⟨b,hb⟩:=Rq n hn call
 cases b with
 |true=>exact hb
 |false=>
  unfold Po at h
  rw [hb] at h
  cases h
theorem V6 {n:Nat} {call:ByteArray} (h:Su n call=some true) {k v m:Int} (hk:(k=0∧m=60000)∨(k=1∧m=4095)∨(k=2∧m=400)) (h0:0≤v) (h1:v≤m):Po n ⟨call,k,v,⟨#[]⟩⟩=some 0:=by
 unfold Po
 rw [h]
 have e0:(!((⟨#[]⟩:ByteArray).toList==(⟨#[]⟩:ByteArray).toList))=false:=by rw [beq_self_eq_true];rfl
 have eg:Ch ([60000,4095,400]:List Int) k=some m:=by
  rcases hk with ⟨rfl,rfl⟩|⟨rfl,rfl⟩|⟨rfl,rfl⟩<;>rfl
 simp only [Option.bind_some,Bool.not_true,cond_false]
 rw [decide_eq_false (show ¬k<0 by omega),decide_eq_false (show ¬k>6 by omega),decide_eq_false (show ¬k>2 by omega)]
 simp only [cond_false]
 rw [e0,cond_false,decide_eq_false (show ¬v<0 by omega),cond_false,eg,Option.bind_some,decide_eq_false (show ¬v>m by omega),cond_false]
theorem gP (n:Nat) (hn:4100<n) (l:List Ab) (ok:Cg l) (now:Ab) (hb:Hl now):∃(h s:Int) (b:Bool),uX n l now=some (h,s,b)∧(0≤h∧h≤4095)∧(0≤s∧s≤3000000):=by
 have hlen:=ok.len
 obtain ⟨r,e,h,s,b,rfl,h1,h2⟩:=Ei (S:=fun y:Int=>Um n (0) false l (l.length:Int) now.Ac now.Ak now.Aj now.Af now.Aw now.Bi y) (fun y=>∃i:Nat,y=(i:Int)∧i≤l.length) (fun r=>∃(h s:Int) (b:Bool),r=(h,s,b)∧(0≤h∧h≤4095)∧(0≤s∧s≤3000000)) (fun y=>l.length-y.toNat) (fun y ⟨i,hy,hi⟩=>by
  subst hy
  unfold Um
  rcases Nat.lt_or_ge i l.length with c|c
  ·have hx:l[i]?=some l[i]:=List.getElem?_eq_getElem c
   have bx:=ok.nodes _ (List.mem_of_getElem? hx)
   generalize hX:l[i]=x at*
   rw [decide_eq_true (by omega),cond_true,Bl hx,Option.bind_some]
   by_cases c2:x.Ac>now.Ac
   ·rw [decide_eq_true c2,cond_true]
    refine .inr ?_
    obtain ⟨f,cc,ed,f0,f1,f2,f3,-⟩:=Q9 n (by omega) (⟨now.Ak,now.Aj⟩:TP) (⟨x.Ak,x.Aj⟩:TP) hb.2.2.1 bx.2.2.1
    unfold bP
    rw [Option.bind_some]
    obtain ⟨h,e,eo,h0,h1⟩:=Ajv n hn (⟨IntKind.wrap .i64 (x.Ak-now.Ak),IntKind.wrap .i64 (x.Aj-now.Aj)⟩:TP)
    have t1:=bx.2.1
    have t0:=hb.1
    have hv0:0≤f / (x.Ac-now.Ac):=Int.ediv_nonneg f0 (by omega)
    have hv1:f / (x.Ac-now.Ac)≤f:=Int.ediv_le_self _ f0
    have hd:Ky f (IntKind.wrap .i64 (x.Ac-now.Ac))=some (f / (x.Ac-now.Ac)):=by
     rw [wrap64 (by omega) (by omega)]
     simp only [Ky,if_neg (show ¬x.Ac-now.Ac=0 by omega)]
     rw [Int.tdiv_eq_ediv_of_nonneg f0]
    rw [eo,Option.bind_some,ed,Option.bind_some,hd,Option.bind_some,wrap64 (by omega) (by omega)]
    exact ⟨_,rfl,_,_,_,rfl,⟨h0,h1⟩,hv0,by omega⟩
   ·rw [decide_eq_false c2,cond_false]
    have nx:IntKind.wrap .i64 ((i:Int)+1)=((i+1:Nat):Int):=wS (by omega)
    exact .inl ⟨_,rfl,⟨i+1,nx,by omega⟩,by rw [nx];omega⟩
  ·rw [decide_eq_false (by omega),cond_false]
   exact .inr ⟨_,rfl,_,_,_,rfl,⟨by decide,by decide⟩,by decide,by decide⟩) n 0 ⟨0,rfl,by omega⟩ (by show l.length-0<n;omega)
 exact ⟨h,s,b,e,h1,h2⟩
theorem iW (n:Nat) (hn:4100<n) (call:ByteArray) (l:List Ab) (t:Int) (k:Dg):(∃z,z≠0∧g44 n call l t k=some ([],z))∨
  ∃(H S A:Int) (J:List (Int×Int)),g44 n call l t k=some (J.map (cf call H S A),0)∧Sb (jU H S k) full J∧Su n call=some true∧k.B8≤60000∧1≤k.Eg∧k.Eh≤400:=by
 unfold g44
 rcases Ss n (by omega) l with ⟨ec,ok⟩|⟨z,hz,ec⟩
 rotate_left
 ·rw [ec,Option.bind_some,bne_iff_ne.2 hz,cond_true];exact .inl ⟨z,hz,rfl⟩
 rw [ec,Option.bind_some,show ((0:Int) !=0)=false from rfl,cond_false]
 obtain ⟨z,ek,hk⟩:=Ov n (by omega) k
 rw [ek,Option.bind_some]
 by_cases c1:z=0
 rotate_left
 ·rw [bne_iff_ne.2 c1,cond_true];exact .inl ⟨z,c1,rfl⟩
 subst c1
 rw [show ((0:Int) !=0)=false from rfl,cond_false]
 obtain ⟨-,-,-,-,k1,k2,-,k3⟩:=hk rfl
 have hp:=ok.pos
 have h0:l[0]?=some l[0]:=List.getElem?_eq_getElem hp
 have h1:l[l.length-1]?=some l[l.length-1]:=List.getElem?_eq_getElem (by omega)
 rcases Jr n (by omega) l ok ec t _ _ h0 h1 with ⟨t0,t1,-⟩|⟨-,e2⟩
 rotate_left
 ·rw [e2,Option.bind_some]
  exact .inl ⟨12,by decide,rfl⟩
 obtain ⟨now,e2,hb,-,-⟩:=vW n (by omega) l ok ec t _ _ h0 h1 t0 t1
 rw [e2,Option.bind_some]
 dsimp only
 rw [show ((0:Int) !=0)=false from rfl,cond_false]
 obtain ⟨w,ew⟩:=P7 n (by omega) ⟨call,0,0,⟨#[]⟩⟩
 rw [ew,Option.bind_some]
 by_cases c2:w=0
 rotate_left
 ·rw [bne_iff_ne.2 c2,cond_true];exact .inl ⟨w,c2,rfl⟩
 subst c2
 rw [show ((0:Int) !=0)=false from rfl,cond_false]
 obtain ⟨A,S,mv,eq,hA,hS⟩:=gP n hn l ok now hb
 rw [eq,Option.bind_some]
 obtain ⟨J,hJ,er⟩:=rounds n hn call S A mv k now ⟨hb.2.2.2.1,hb.2.2.2.2.1⟩ hS hA
 exact .inr ⟨now.Af,S,A,J,er,hJ,oJ (by omega) ew,k3,k1,k2⟩
end Go.Proofs.YtkdodbfnocdkdaaGreatDoor
