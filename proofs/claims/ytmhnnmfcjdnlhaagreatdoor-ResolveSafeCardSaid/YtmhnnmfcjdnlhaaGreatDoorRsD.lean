/- Parts RsC, RsF, Rs1, Rs2. -/
import Derived.Test.YtmhnnmfcjdnlhaaGreatDoorRsA
import Derived.Test.YtmhnnmfcjdnlhaaGreatDoorAt3
set_option linter.unusedVariables false
set_option linter.unusedSimpArgs false
set_option maxHeartbeats 4000000
namespace Go.Proofs.YtmhnnmfcjdnlhaaGreatDoor
def Sb (ok:Int×Int→Prop) (P J:List (Int×Int)):Prop:=J.Sublist P∧∀p∈J,ok p
theorem Sb.skip {ok:Int×Int→Prop} {P J:List (Int×Int)} {a:Int×Int} (h:Sb ok P J):Sb ok (P++[a]) J:=⟨h.1.trans (List.sublist_append_left P [a]),h.2⟩
theorem Sb.add {ok:Int×Int→Prop} {P J:List (Int×Int)} {a:Int×Int} (h:Sb ok P J) (ha:ok a):Sb ok (P++[a]) (J++[a]):=
 ⟨h.1.append (List.Sublist.refl _),fun p hp=>by
  rcases List.mem_append.1 hp with h1|h1
  ·exact h.2 p h1
  ·rw [List.mem_singleton.1 h1];exact ha⟩
theorem Sb.len {ok:Int×Int→Prop} {P J:List (Int×Int)} (h:Sb ok P J):J.length≤P.length:=h.1.length_le
def cf (call:ByteArray) (H S A:Int) (p:Int×Int):Ae:=
 if p.1=0 then ⟨call,0,H+1000*p.2,⟨#[]⟩⟩ else if p.1=2 then ⟨call,2,S+15*p.2,⟨#[]⟩⟩ else ⟨call,1,(A+171*p.2) % 4096,⟨#[]⟩⟩
def cT (H S:Int) (k:Dm) (p:Int×Int):Prop:=(p.1=0→0≤H+1000*p.2∧H+1000*p.2≤k.B6)∧(p.1=2→k.Dy≤S+15*p.2∧S+15*p.2≤k.Dz)
theorem Xi (n:Nat) (a:Int):Zi n a=some (a % 4096):=by
 unfold Zi
 have h1:Int.tmod a 4096=if 0≤a then a % 4096 else -((-a) % 4096):=by
  by_cases h:0≤a
  ·rw [if_pos h,Int.tmod_eq_emod_of_nonneg h]
  ·rw [if_neg h,← Int.tmod_eq_emod_of_nonneg (show 0≤-a by omega),Int.neg_tmod,Int.neg_neg]
 have h2: -4096<Int.tmod a 4096∧Int.tmod a 4096<4096:=by rw [h1];split<;>omega
 rw [wrap64 (by omega) (by omega),Int.tmod_eq_emod_of_nonneg (show 0≤Int.tmod a 4096+4096 by omega)]
 have e:(Int.tmod a 4096+4096) % 4096=a % 4096:=by
  rw [h1]
  by_cases h:0≤a
  ·rw [if_pos h];omega
  ·rw [if_neg h];omega
 rw [e]
theorem lX (a b:Int):Dq [a,b] 0=some a:=rfl
theorem jY (a b:Int):Dq [a,b] 1=some b:=rfl
theorem Pk {ρ:Type} {S:Int×List Ae×ByteArray→Option ((Int×List Ae×ByteArray)⊕ρ)} {f:Int×Int→Ae} {call:ByteArray} {ok:Int×Int→Prop} {P:List (Int×Int)} {a b:Int×Int} {Q:ρ→Prop} {n:Nat} (hn:2<n)
  (h0:∀J,Sb ok P J→∃J',Sb ok (P++[a]) J'∧S (0,J.map f,call)=some (.inl (1,J'.map f,call)))
  (h1:∀J,Sb ok (P++[a]) J→∃J',Sb ok (P++[a]++[b]) J'∧S (1,J.map f,call)=some (.inl (2,J'.map f,call)))
  (h2:∀J,Sb ok (P++[a]++[b]) J→∃r,S (2,J.map f,call)=some (.inr r)∧Q r) {J:List (Int×Int)} (hJ:Sb ok P J):∃r,Bt S n (0,J.map f,call)=some r∧Q r:=by
 obtain ⟨m,rfl⟩:∃m,n=m+3:=⟨n-3,by omega⟩
 obtain ⟨J1,k1,e1⟩:=h0 J hJ
 obtain ⟨J2,k2,e2⟩:=h1 J1 k1
 obtain ⟨r,e3,q⟩:=h2 J2 k2
 refine ⟨r,?_,q⟩
 unfold Bt
 rw [e1]
 show Bt S (m+2) _=_
 unfold Bt
 rw [e2]
 show Bt S (m+1) _=_
 unfold Bt
 rw [e3]
section
variable (n:Nat) (hn:4100<n) (call:ByteArray) (S A:Int) (mv:Bool) (k:Dm) (x:Ab) (hx:0≤x.Ad∧x.Ad≤60000) (hS:0≤S∧S≤3000000) (hA:0≤A∧A≤4095) {r:Int} (hr:1≤r∧r≤3)
theorem Wx {J P:List (Int×Int)} {ok:Int×Int→Prop} {f:Int×Int→Ae} {c:Ae} (h:Sb ok P J) (hP:P.length≤1000):Fc ((J.map f).length+([c]:List Ae).length) 48=some ():=by
 have:=h.len
 refine Io ?_ ?_<;>(simp only [List.length_map,List.length_cons,List.length_nil];omega)
include hn hA hr in
theorem Aee {P J:List (Int×Int)} (hP:P.length≤100) (hJ:Sb (cT x.Ad S k) P J):∃q,Bt (fun y:Int×List Ae×ByteArray=>Kn n 0 A S mv r (IntKind.wrap .i64 (A+(IntKind.wrap .i64 ((171)*r)))) (IntKind.wrap .i64 (A-(IntKind.wrap .i64 ((171)*r)))) k.Name k.D9 k.B6 k.C1 k.Ca k.Dy k.Dz x.Ac x.Ak x.Aj x.Ad x.Ay x.Br y.1 y.2.1 y.2.2) n (0,J.map (cf call x.Ad S A),call)=some q∧
  ∃J',Sb (cT x.Ad S k) (P++[(1,r)]++[(1,-r)]) J'∧q=.inl (r+1,J'.map (cf call x.Ad S A),call):=by
 refine Pk (a:=(1,r)) (b:=(1,-r)) (by omega) (fun J hJ=>⟨J++[(1,r)],hJ.add ⟨fun h=>absurd h (show ¬(1:Int)=0 by decide),fun h=>absurd h (show ¬(1:Int)=2 by decide)⟩,?_⟩) (fun J hJ=>⟨J++[(1,-r)],hJ.add ⟨fun h=>absurd h (show ¬(1:Int)=0 by decide),fun h=>absurd h (show ¬(1:Int)=2 by decide)⟩,?_⟩) (fun J hJ=> ?_) hJ
 ·dsimp only
  unfold Kn
  rw [decide_eq_true (by decide),cond_true,wrap64 (z:=171*r) (by omega) (by omega),wrap64 (by omega) (by omega)]
  rw [lX,Option.bind_some,Xi,Option.bind_some,Wx hJ (by omega),Option.bind_some,List.map_append]
  rfl
 ·dsimp only
  unfold Kn
  rw [decide_eq_true (by decide),cond_true,wrap64 (z:=171*r) (by omega) (by omega),wrap64 (z:=A-171*r) (by omega) (by omega)]
  rw [jY,Option.bind_some,Xi,Option.bind_some,Wx hJ (by rw [List.length_append];simp only [List.length_cons,List.length_nil];omega),Option.bind_some,List.map_append]
  have e:cf call x.Ad S A (1,-r)=⟨call,1,(A-171*r) % 4096,⟨#[]⟩⟩:=by
   show (⟨call,1,(A+171* -r) % 4096,⟨#[]⟩⟩:Ae)=_
   rw [show A+171* -r=A-171*r by omega]
  rw [List.map_cons,List.map_nil,e]
  rfl
 ·refine ⟨_,?_,J,hJ,rfl⟩
  dsimp only
  unfold Kn
  rw [decide_eq_false (by decide),cond_false,wrap64 (by omega) (by omega)]
include hn hS hA hr in
theorem Ad2 {P J:List (Int×Int)} (hP:P.length≤90) (hJ:Sb (cT x.Ad S k) P J):∃q,Bt (fun y:Int×List Ae×ByteArray=>Ko n 0 A S mv r (IntKind.wrap .i64 (S+(IntKind.wrap .i64 ((15)*r)))) (IntKind.wrap .i64 (S-(IntKind.wrap .i64 ((15)*r)))) k.Name k.D9 k.B6 k.C1 k.Ca k.Dy k.Dz x.Ac x.Ak x.Aj x.Ad x.Ay x.Br y.1 y.2.1 y.2.2) n (0,J.map (cf call x.Ad S A),call)=some q∧
  ∃J',Sb (cT x.Ad S k) (P++[(2,r)]++[(2,-r)]++[(1,r)]++[(1,-r)]) J'∧q=.inl (r+1,J'.map (cf call x.Ad S A),call):=by
 have step:∀(w v:Int) (a:Int×Int) (P J:List (Int×Int)),P.length≤100→Sb (cT x.Ad S k) P J→a.1=2→v=S+15*a.2→∀z:Int,∃J',Sb (cT x.Ad S k) (P++[a]) J'∧
   (bif decide (v≥k.Dy) then (bif decide (v≤k.Dz) then ((Fc ((J.map (cf call x.Ad S A)).length+([(⟨call,(2),v,(⟨#[]⟩:ByteArray)⟩:Ae)]:List Ae).length) 48).bind fun x752=>
    some (.inl (z,((J.map (cf call x.Ad S A))++([(⟨call,(2),v,(⟨#[]⟩:ByteArray)⟩:Ae)]:List Ae)),call))) else some (.inl (z,J.map (cf call x.Ad S A),call))) else (some (.inl (z,J.map (cf call x.Ad S A),call)):Option ((Int×List Ae×ByteArray)⊕((Int×List Ae×ByteArray)⊕((List Ae)×Int)))))=some (.inl (z,J'.map (cf call x.Ad S A),call)):=fun w v a P J hP hJ ha hv z=>by
  by_cases c1:v≥k.Dy
  ·rw [decide_eq_true c1,cond_true]
   by_cases c2:v≤k.Dz
   ·refine ⟨J++[a],hJ.add ⟨fun h=>absurd (ha.symm.trans h) (by decide),fun _=>by omega⟩,?_⟩
    rw [decide_eq_true c2,cond_true,Wx hJ (by omega),Option.bind_some,List.map_append,List.map_cons,List.map_nil,cf,if_neg (by omega),if_pos ha,hv]
   ·exact ⟨J,hJ.skip,by rw [decide_eq_false c2,cond_false]⟩
  ·exact ⟨J,hJ.skip,by rw [decide_eq_false c1,cond_false]⟩
 refine Pk (a:=(2,r)) (b:=(2,-r)) (by omega) (fun J hJ=> ?_) (fun J hJ=> ?_) (fun J hJ=> ?_) hJ
 ·dsimp only
  unfold Ko
  rw [decide_eq_true (by decide),cond_true,wrap64 (z:=15*r) (by omega) (by omega),wrap64 (z:=S+15*r) (by omega) (by omega),lX,Option.bind_some]
  exact step 0 (S+15*r) (2,r) P J (by omega) hJ rfl rfl 1
 ·dsimp only
  unfold Ko
  rw [decide_eq_true (by decide),cond_true,wrap64 (z:=15*r) (by omega) (by omega),wrap64 (z:=S-15*r) (by omega) (by omega),jY,Option.bind_some]
  exact step 1 (S-15*r) (2,-r) (P++[(2,r)]) J (by rw [List.length_append];simp only [List.length_cons,List.length_nil];omega) hJ rfl (by show S-15*r=S+15* -r;omega) 2
 ·obtain ⟨q,e,J',h1,h2⟩:=Aee n hn call S A mv k x hA hr (P:=P++[(2,r)]++[(2,-r)]) (by simp only [List.length_append,List.length_cons,List.length_nil];omega) hJ
  refine ⟨q,?_,J',h1,h2⟩
  dsimp only
  unfold Ko
  rw [decide_eq_false (by decide),cond_false,e]
  rfl
def oM (r:Int):List (Int×Int):=[(0,r),(0,-r),(2,r),(2,-r),(1,r),(1,-r)]
include hn hx hS hA hr in
theorem Adq {P J:List (Int×Int)} (hP:P.length≤80) (hJ:Sb (cT x.Ad S k) P J):∃q,Bt (fun y:Int×List Ae×ByteArray=>Jw n 0 A S mv r (IntKind.wrap .i64 (x.Ad+(IntKind.wrap .i64 ((1000)*r)))) (IntKind.wrap .i64 (x.Ad-(IntKind.wrap .i64 ((1000)*r)))) k.Name k.D9 k.B6 k.C1 k.Ca k.Dy k.Dz x.Ac x.Ak x.Aj x.Ad x.Ay x.Br y.1 y.2.1 y.2.2) n (0,J.map (cf call x.Ad S A),call)=some q∧
  ∃J',Sb (cT x.Ad S k) (P++oM r) J'∧q=.inl (r+1,J'.map (cf call x.Ad S A),call):=by
 have step:∀(w v:Int) (a:Int×Int) (P J:List (Int×Int)),P.length≤100→Sb (cT x.Ad S k) P J→a.1=0→v=x.Ad+1000*a.2→∀z:Int,∃J',Sb (cT x.Ad S k) (P++[a]) J'∧
   (bif decide (v≥0) then (bif decide (v≤k.B6) then ((Fc ((J.map (cf call x.Ad S A)).length+([(⟨call,(0),v,(⟨#[]⟩:ByteArray)⟩:Ae)]:List Ae).length) 48).bind fun x752=>
    some (.inl (z,((J.map (cf call x.Ad S A))++([(⟨call,(0),v,(⟨#[]⟩:ByteArray)⟩:Ae)]:List Ae)),call))) else some (.inl (z,J.map (cf call x.Ad S A),call))) else (some (.inl (z,J.map (cf call x.Ad S A),call)):Option ((Int×List Ae×ByteArray)⊕((Int×List Ae×ByteArray)⊕((List Ae)×Int)))))=some (.inl (z,J'.map (cf call x.Ad S A),call)):=fun w v a P J hP hJ ha hv z=>by
  by_cases c1:v≥0
  ·rw [decide_eq_true c1,cond_true]
   by_cases c2:v≤k.B6
   ·refine ⟨J++[a],hJ.add ⟨fun _=>by omega,fun h=>absurd (ha.symm.trans h) (by decide)⟩,?_⟩
    rw [decide_eq_true c2,cond_true,Wx hJ (by omega),Option.bind_some,List.map_append,List.map_cons,List.map_nil,cf,if_pos ha,hv]
   ·exact ⟨J,hJ.skip,by rw [decide_eq_false c2,cond_false]⟩
  ·exact ⟨J,hJ.skip,by rw [decide_eq_false c1,cond_false]⟩
 refine Pk (a:=(0,r)) (b:=(0,-r)) (by omega) (fun J hJ=> ?_) (fun J hJ=> ?_) (fun J hJ=> ?_) hJ
 ·dsimp only
  unfold Jw
  rw [decide_eq_true (by decide),cond_true,wrap64 (z:=1000*r) (by omega) (by omega),wrap64 (z:=x.Ad+1000*r) (by omega) (by omega),lX,Option.bind_some]
  exact step 0 (x.Ad+1000*r) (0,r) P J (by omega) hJ rfl rfl 1
 ·dsimp only
  unfold Jw
  rw [decide_eq_true (by decide),cond_true,wrap64 (z:=1000*r) (by omega) (by omega),wrap64 (z:=x.Ad-1000*r) (by omega) (by omega),jY,Option.bind_some]
  exact step 1 (x.Ad-1000*r) (0,-r) (P++[(0,r)]) J (by rw [List.length_append];simp only [List.length_cons,List.length_nil];omega) hJ rfl (by show x.Ad-1000*r=x.Ad+1000* -r;omega) 2
 ·have e6:P++oM r=P++[(0,r)]++[(0,-r)]++[(2,r)]++[(2,-r)]++[(1,r)]++[(1,-r)]:=by simp [oM]
  cases mv with
  |false=>
   refine ⟨.inl (r+1,J.map (cf call x.Ad S A),call),?_,J,?_,rfl⟩
   ·dsimp only
    unfold Jw
    rw [decide_eq_false (by decide),cond_false,wrap64 (z:=r+1) (by omega) (by omega)]
    rfl
   ·rw [e6]
    exact hJ.skip.skip.skip.skip
  |true=>
   obtain ⟨q,e,J',h1,h2⟩:=Ad2 n hn call S A true k x hS hA hr (P:=P++[(0,r)]++[(0,-r)]) (by simp only [List.length_append,List.length_cons,List.length_nil];omega) hJ
   refine ⟨q,?_,J',by rw [e6];exact h1,h2⟩
   dsimp only
   unfold Jw
   rw [decide_eq_false (by decide),cond_false,e]
   rfl
include hn hx hS hA in
theorem rounds:∃J,Sb (cT x.Ad S k) (oM 1++oM 2++oM 3) J∧Bt (fun y:Int×List Ae×ByteArray=>Wd n (0) A S mv k.Name k.D9 k.B6 k.C1 k.Ca k.Dy k.Dz x.Ac x.Ak x.Aj x.Ad x.Ay x.Br y.1 y.2.1 y.2.2) n ((1),[],call)=some (J.map (cf call x.Ad S A),0):=by
 have round:∀(r:Int) (hr:1≤r∧r≤3) (P J:List (Int×Int)),P.length≤80→Sb (cT x.Ad S k) P J→∃J',Sb (cT x.Ad S k) (P++oM r) J'∧Wd n (0) A S mv k.Name k.D9 k.B6 k.C1 k.Ca k.Dy k.Dz x.Ac x.Ak x.Aj x.Ad x.Ay x.Br r (J.map (cf call x.Ad S A)) call=some (.inl (r+1,J'.map (cf call x.Ad S A),call)):=fun r hr P J hP hJ=>by
  obtain ⟨q,e,J',h1,rfl⟩:=Adq n hn call S A mv k x hx hS hA hr hP hJ
  refine ⟨J',h1,?_⟩
  unfold Wd
  rw [decide_eq_true hr.2,cond_true,e]
 obtain ⟨m,rfl⟩:∃m,n=m+4:=⟨n-4,by omega⟩
 obtain ⟨J1,k1,e1⟩:=round 1 ⟨by decide,by decide⟩ [] [] (by decide) ⟨List.Sublist.refl _,fun p hp=>by cases hp⟩
 obtain ⟨J2,k2,e2⟩:=round 2 ⟨by decide,by decide⟩ _ J1 (by decide) k1
 obtain ⟨J3,k3,e3⟩:=round 3 ⟨by decide,by decide⟩ _ J2 (by decide) k2
 refine ⟨J3,k3,?_⟩
 rw [List.map_nil] at e1
 unfold Bt
 rw [e1]
 show Bt _ (m+3) ((2:Int),_,_)=_
 unfold Bt
 dsimp only
 rw [e2]
 show Bt _ (m+2) ((3:Int),_,_)=_
 unfold Bt
 dsimp only
 rw [e3]
 show Bt _ (m+1) ((4:Int),_,_)=_
 unfold Bt
 dsimp only
 unfold Wd
 rw [decide_eq_false (by decide),cond_false]
end
def dom (p:Int×Int):Prop:=(p.1=0∨p.1=1∨p.1=2)∧-3≤p.2∧p.2≤3
def full:List (Int×Int):=oM 1++oM 2++oM 3
theorem gL {n:Nat} {call:ByteArray} (hn:16<n) (h:iT n ⟨call,0,0,⟨#[]⟩⟩=some 0):qE n call=some true:=by
 obtain ⟨b,hb⟩:=Om n hn call
 cases b with
 |true=>exact hb
 |false=>
  unfold iT at h
  rw [hb] at h
  cases h
theorem aS (n:Nat) (hn:4100<n) (l:List Ab) (ok:Cy l) (now:Ab) (hb:G0 now):∃(h s:Int) (b:Bool),g23 n l now=some (h,s,b)∧(0≤h∧h≤4095)∧(0≤s∧s≤3000000):=by
 have hlen:=ok.len
 obtain ⟨r,e,h,s,b,rfl,h1,h2⟩:=E7 (S:=fun y:Int=>Rn n (0) false l (l.length:Int) now.Ac now.Ak now.Aj now.Ad now.Ay now.Br y) (fun y=>∃i:Nat,y=(i:Int)∧i≤l.length) (fun r=>∃(h s:Int) (b:Bool),r=(h,s,b)∧(0≤h∧h≤4095)∧(0≤s∧s≤3000000)) (fun y=>l.length-y.toNat) (fun y ⟨i,hy,hi⟩=>by
  subst hy
  unfold Rn
  rcases Nat.lt_or_ge i l.length with c|c
  ·have hx:l[i]?=some l[i]:=List.getElem?_eq_getElem c
   have bx:=ok.nodes _ (List.mem_of_getElem? hx)
   generalize hX:l[i]=x at*
   rw [decide_eq_true (by omega),cond_true,Cg hx,Option.bind_some]
   by_cases c2:x.Ac>now.Ac
   ·rw [decide_eq_true c2,cond_true]
    refine .inr ?_
    obtain ⟨f,cc,ed,f0,f1,f2,f3,-⟩:=Od n (by omega) (⟨now.Ak,now.Aj⟩:TP) (⟨x.Ak,x.Aj⟩:TP) hb.2.2.1 bx.2.2.1
    unfold zR
    rw [Option.bind_some]
    obtain ⟨h,e,eo,h0,h1⟩:=yL n hn (⟨IntKind.wrap .i64 (x.Ak-now.Ak),IntKind.wrap .i64 (x.Aj-now.Aj)⟩:TP)
    have t1:=bx.2.1
    have t0:=hb.1
    have hv0:0≤f / (x.Ac-now.Ac):=Int.ediv_nonneg f0 (by omega)
    have hv1:f / (x.Ac-now.Ac)≤f:=Int.ediv_le_self _ f0
    have hd:Js f (IntKind.wrap .i64 (x.Ac-now.Ac))=some (f / (x.Ac-now.Ac)):=by
     rw [wrap64 (by omega) (by omega)]
     simp only [Js,if_neg (show ¬x.Ac-now.Ac=0 by omega)]
     rw [Int.tdiv_eq_ediv_of_nonneg f0]
    rw [eo,Option.bind_some,ed,Option.bind_some,hd,Option.bind_some,wrap64 (by omega) (by omega)]
    exact ⟨_,rfl,_,_,_,rfl,⟨h0,h1⟩,hv0,by omega⟩
   ·rw [decide_eq_false c2,cond_false]
    have nx:IntKind.wrap .i64 ((i:Int)+1)=((i+1:Nat):Int):=wS (by omega)
    exact .inl ⟨_,rfl,⟨i+1,nx,by omega⟩,by rw [nx];omega⟩
  ·rw [decide_eq_false (by omega),cond_false]
   exact .inr ⟨_,rfl,_,_,_,rfl,⟨by decide,by decide⟩,by decide,by decide⟩) n 0 ⟨0,rfl,by omega⟩ (by show l.length-0<n;omega)
 exact ⟨h,s,b,e,h1,h2⟩
theorem aY (n:Nat) (hn:4100<n) (call:ByteArray) (l:List Ab) (t:Int) (k:Dm):(∃z,z≠0∧g7 n call l t k=some ([],z))∨
  ∃(H S A:Int) (J:List (Int×Int)),g7 n call l t k=some (J.map (cf call H S A),0)∧Sb (cT H S k) full J∧qE n call=some true∧k.B6≤60000∧1≤k.Dy∧k.Dz≤400:=by
 unfold g7
 rcases O7 n (by omega) l with ⟨ec,ok⟩|⟨z,hz,ec⟩
 rotate_left
 ·rw [ec,Option.bind_some,bne_iff_ne.2 hz,cond_true];exact .inl ⟨z,hz,rfl⟩
 rw [ec,Option.bind_some,show ((0:Int) !=0)=false from rfl,cond_false]
 obtain ⟨z,ek,hk⟩:=Mb n (by omega) k
 rw [ek,Option.bind_some]
 by_cases c1:z=0
 rotate_left
 ·rw [bne_iff_ne.2 c1,cond_true];exact .inl ⟨z,c1,rfl⟩
 subst c1
 rw [show ((0:Int) !=0)=false from rfl,cond_false]
 obtain ⟨-,-,-,-,k1,k2,-,k3⟩:=hk rfl
 have hp:=ok.pos
 have h0:l[0]?=some l[0]:=List.getElem?_eq_getElem hp
 have h1:l[l.length-1]?=some l[l.length-1]:=List.getElem?_eq_getElem (by omega)
 rcases I8 n (by omega) l ok ec t _ _ h0 h1 with ⟨t0,t1,-⟩|⟨-,e2⟩
 rotate_left
 ·rw [e2,Option.bind_some]
  exact .inl ⟨12,by decide,rfl⟩
 obtain ⟨now,e2,hb,-,-⟩:=oK n (by omega) l ok ec t _ _ h0 h1 t0 t1
 rw [e2,Option.bind_some]
 dsimp only
 rw [show ((0:Int) !=0)=false from rfl,cond_false]
 obtain ⟨w,ew⟩:=Q7 n (by omega) ⟨call,0,0,⟨#[]⟩⟩
 rw [ew,Option.bind_some]
 by_cases c2:w=0
 rotate_left
 ·rw [bne_iff_ne.2 c2,cond_true];exact .inl ⟨w,c2,rfl⟩
 subst c2
 rw [show ((0:Int) !=0)=false from rfl,cond_false]
 obtain ⟨A,S,mv,eq,hA,hS⟩:=aS n hn l ok now hb
 rw [eq,Option.bind_some]
 obtain ⟨J,hJ,er⟩:=rounds n hn call S A mv k now ⟨hb.2.2.2.1,hb.2.2.2.2.1⟩ hS hA
 exact .inr ⟨now.Ad,S,A,J,er,hJ,gL (by omega) ew,k3,k1,k2⟩
end Go.Proofs.YtmhnnmfcjdnlhaaGreatDoor
set_option linter.unusedVariables false
set_option linter.unusedSimpArgs false
set_option maxHeartbeats 4000000
namespace Go.Proofs.YtmhnnmfcjdnlhaaGreatDoor
def Yv (n:Nat):Prop:=4000000000<n
theorem lG (n:Nat) (hn:Yv n) (a:Int):∃r,xM n a=some r:=by
 unfold xM
 by_cases h0:a≤0
 ·rw [decide_eq_true h0,cond_true];exact ⟨_,rfl⟩
 rw [decide_eq_false h0,cond_false]
 obtain ⟨r,hr,-⟩:=E7 (S:=fun y:Int×Int=>Mv n a (0) y.1 y.2) (fun y=>0≤y.1∧y.1≤y.2∧y.2≤3037000499) (fun _=>True) (fun y=>(y.2-y.1).toNat) (by
  rintro ⟨u,v⟩ ⟨h1,h2,h3⟩
  simp only at h1 h2 h3 ⊢
  unfold Mv
  by_cases hlt:u<v
  ·rw [decide_eq_true hlt,cond_true]
   have e1:IntKind.wrap .i64 (v-u)=v-u:=wrap64 (by omega) (by omega)
   have e2:IntKind.wrap .i64 (v-u+1)=v-u+1:=wrap64 (by omega) (by omega)
   have e3:IntKind.wrap .i64 (Int.tdiv (v-u+1) 2)=(v-u+1) / 2:=by
    rw [Int.tdiv_eq_ediv_of_nonneg (by omega)]
    exact wrap64 (by omega) (by omega)
   have e4:IntKind.wrap .i64 (u+(v-u+1) / 2)=u+(v-u+1) / 2:=wrap64 (by omega) (by omega)
   rw [e1,e2,e3,e4]
   have e5:IntKind.wrap .i64 (u+(v-u+1) / 2-1)=u+(v-u+1) / 2-1:=wrap64 (by omega) (by omega)
   rw [e5]
   cases decide (IntKind.wrap .i64 ((u+(v-u+1) / 2)*(u+(v-u+1) / 2))≤a) with
   |true=>exact .inl ⟨_,rfl,⟨by show 0≤u+(v-u+1) / 2;omega,by show u+(v-u+1) / 2≤v;omega,h3⟩,by show (v-(u+(v-u+1) / 2)).toNat<(v-u).toNat;omega⟩
   |false=>exact .inl ⟨_,rfl,⟨h1,by show u≤u+(v-u+1) / 2-1;omega,by show u+(v-u+1) / 2-1≤3037000499;omega⟩,by show (u+(v-u+1) / 2-1-u).toNat<(v-u).toNat;omega⟩
  ·rw [decide_eq_false hlt,cond_false]
   exact .inr ⟨_,rfl,trivial⟩) n (0,3037000499) ⟨by decide,by decide,by decide⟩ (by unfold Yv at hn;show ((3037000499:Int)-0).toNat<n;omega)
 exact ⟨r,hr⟩
theorem kD (n:Nat) (hn:Yv n) (a b:TP):∃r,aG n a b=some r:=by
 unfold aG
 obtain ⟨d,hd⟩:∃d,g60 n a b=some d:=⟨_,rfl⟩
 rw [hd,Option.bind_some]
 obtain ⟨q,hq⟩:=lG n hn d
 rw [hq,Option.bind_some]
 cases decide (IntKind.wrap .i64 (q*q)<d)<;>exact ⟨_,rfl⟩
theorem jR (n:Nat) (hn:Yv n) (a b:Ab) (s:Ea):∃r,g83 n a b s=some r:=by
 unfold g83
 obtain ⟨d,hd⟩:=kD n hn ⟨a.Ak,a.Aj⟩ ⟨b.Ak,b.Aj⟩
 rw [hd,Option.bind_some]
 cases decide (IntKind.wrap .i64 (IntKind.wrap .i64 (d.1-a.Ay)-b.Ay)≥s.Bu)<;>exact ⟨_,rfl⟩
theorem aW (n:Nat) {a b:List Ab} (ha:Cy a) (hb:Cy b):∃f t:Int,g82 n a b=some (f,t)∧0≤f∧f≤200000∧0≤t∧t≤200000:=by
 have hp:=ha.pos
 have hq:=ha.len
 have hp':=hb.pos
 have hq':=hb.len
 have h0:a[0]?=some a[0]:=List.getElem?_eq_getElem hp
 have h1:a[a.length-1]?=some a[a.length-1]:=List.getElem?_eq_getElem (by omega)
 have k0:b[0]?=some b[0]:=List.getElem?_eq_getElem hp'
 have k1:b[b.length-1]?=some b[b.length-1]:=List.getElem?_eq_getElem (by omega)
 have hw:IntKind.wrap .i64 ((a.length:Int)-1)=((a.length-1:Nat):Int):=by rw [wrap64 (by omega) (by omega)];omega
 have hw':IntKind.wrap .i64 ((b.length:Int)-1)=((b.length-1:Nat):Int):=by rw [wrap64 (by omega) (by omega)];omega
 have g0:Dq a 0=some a[0]:=Cg (i:=0) h0
 have g0':Dq b 0=some b[0]:=Cg (i:=0) k0
 have b0:=ha.nodes _ (List.mem_of_getElem? h0)
 have b1:=ha.nodes _ (List.mem_of_getElem? h1)
 have b2:=hb.nodes _ (List.mem_of_getElem? k0)
 have b3:=hb.nodes _ (List.mem_of_getElem? k1)
 unfold g82
 rw [g0,g0',hw,hw',Cg h1,Cg k1]
 refine ⟨_,_,rfl,?_,?_,?_,?_⟩
 ·split<;>first|exact b2.1|exact b0.1
 ·split<;>first|exact b2.2.1|exact b0.2.1
 ·split<;>first|exact b3.1|exact b1.1
 ·split<;>first|exact b3.2.1|exact b1.2.1
theorem fU (n:Nat) (hn:Yv n) {a b:List Ab} (ha:Cy a) (hb:Cy b) (ca:K7 n a=some 0) (cb:K7 n b=some 0) (s:Ea):∃L,g70 n a b s=some L:=by
 obtain ⟨f,t,hc,f1,f2,t1,t2⟩:=aW n ha hb
 have hn64:64<n:=by unfold Yv at hn;omega
 unfold g70
 rw [hc,Option.bind_some]
 obtain ⟨r,hr,-⟩:=E7 (S:=fun y:Int×List Cc=>Rx n a b (f,t).2 s.Bu s.Bj y.1 y.2) (fun y=>f≤y.1∧y.1≤200001∧y.2.length≤(y.1-f).toNat) (fun _=>True) (fun y=>(t+1-y.1).toNat) (by
  rintro ⟨u,L⟩ ⟨h1,h2,h3⟩
  simp only at h1 h2 h3 ⊢
  unfold Rx
  by_cases hle:u≤t
  ·rw [decide_eq_true hle,cond_true,(kH n hn64 a ha ca u).1,(kH n hn64 b hb cb u).1]
   simp only [Option.bind_some]
   obtain ⟨q,hq⟩:=jR n hn (atR n a u).1 (atR n b u).1 ⟨s.Bu,s.Bj⟩
   rw [hq,Option.bind_some]
   have e1:IntKind.wrap .i64 (u+1)=u+1:=wrap64 (by omega) (by omega)
   have dec:(t+1-(u+1)).toNat<(t+1-u).toNat:=by omega
   have room:Fc (L.length+1) 16=some ():=Io (by omega) (by omega)
   rw [e1]
   cases q with
   |true=>exact .inl ⟨_,rfl,⟨by show f≤u+1;omega,by show u+1≤200001;omega,by show L.length≤(u+1-f).toNat;omega⟩,dec⟩
   |false=>
    rw [cond_false]
    by_cases hl:(L.length:Int)>0
    ·rw [decide_eq_true hl,cond_true]
     have hw:IntKind.wrap .i64 ((L.length:Int)-1)=((L.length-1:Nat):Int):=by rw [wrap64 (by omega) (by omega)];omega
     have hx:L[L.length-1]?=some (L[L.length-1]'(by omega)):=List.getElem?_eq_getElem (by omega)
     rw [hw,Cg hx]
     simp only [Option.bind_some]
     cases (L[L.length-1]'(by omega)).To==u with
     |true=>exact .inl ⟨_,rfl,⟨by show f≤u+1;omega,by show u+1≤200001;omega,by simp only [List.length_set];omega⟩,dec⟩
     |false=>
      rw [cond_false,show L.length+([(⟨u,u+1⟩:Cc)]:List Cc).length=L.length+1 from rfl,room,Option.bind_some]
      exact .inl ⟨_,rfl,⟨by show f≤u+1;omega,by show u+1≤200001;omega,by simp only [List.length_append,List.length_cons,List.length_nil];omega⟩,dec⟩
    ·rw [decide_eq_false hl,cond_false,show L.length+([(⟨u,u+1⟩:Cc)]:List Cc).length=L.length+1 from rfl,room,Option.bind_some]
     exact .inl ⟨_,rfl,⟨by show f≤u+1;omega,by show u+1≤200001;omega,by simp only [List.length_append,List.length_cons,List.length_nil];omega⟩,dec⟩
  ·rw [decide_eq_false hle,cond_false]
   exact .inr ⟨_,rfl,trivial⟩) n (f,[]) ⟨Int.le_refl _,by show f≤200001;omega,by simp⟩ (by unfold Yv at hn;show (t+1-f).toNat<n;omega)
 exact ⟨r,hr⟩
theorem tG (n:Nat) (s:Ea) (hs:fX n s=some 0) (L:List (List Ab)) (hL:L.length≤1000) (hn:Yv n) (h:∀l∈L,K7 n l=some 0):g69 n s L=some 0:=by
 unfold g69
 rw [hs,Option.bind_some,show ((0:Int) !=0)=false from rfl,cond_false]
 refine N5 (fun y=>∃i:Nat,i≤L.length∧y=(i:Int)) 0 (fun y=>L.length-y.toNat) ?_ n _ ⟨0,Nat.zero_le _,rfl⟩ (by unfold Yv at hn;show L.length-(0:Int).toNat<n;omega)
 rintro _ ⟨i,hi,rfl⟩
 unfold S9
 rcases Nat.lt_or_ge i L.length with hlt|hge
 ·left
  have hx:L[i]?=some L[i]:=List.getElem?_eq_getElem hlt
  rw [decide_eq_true (show (i:Int)<(L.length:Int) by omega),cond_true,Cg hx,Option.bind_some,h _ (List.mem_of_getElem? hx),Option.bind_some,show ((0:Int) !=0)=false from rfl,cond_false,wS (by omega)]
  exact ⟨_,rfl,⟨i+1,hlt,rfl⟩,by omega⟩
 ·right
  rw [decide_eq_false (by omega)];rfl
end Go.Proofs.YtmhnnmfcjdnlhaaGreatDoor
set_option linter.unusedVariables false
set_option linter.unusedSimpArgs false
set_option maxHeartbeats 4000000
namespace Go.Proofs.YtmhnnmfcjdnlhaaGreatDoor
theorem Wq (n:Nat) (hn:200200<n) (l:List Ab) (c:Ae) (t:Int) (k:Dm) (fix:TP):∃r,g8 n l c t k fix=some r∧(r.2=0→Cy r.1∧K7 n r.1=some 0):=by
 rcases oC n (by omega) l c t k fix with ⟨y,hy,e1⟩|⟨ec,ok,hk,hfix,now,e4,e1⟩
 ·exact ⟨_,e1,fun h=>absurd h hy⟩
 obtain ⟨n1,n2,n3,n4,n5⟩:=Aef n (by omega) l ok ec t now e4
 have hlen:=ok.len
 have hpos:=ok.pos
 have hx0:l[0]?=some l[0]:=List.getElem?_eq_getElem (by omega)
 have hxl:l[l.length-1]?=some l[l.length-1]:=List.getElem?_eq_getElem (by omega)
 have hf:=Xh n (by omega) l ok ec t now _ _ hx0 hxl e4
 have hlast:=n5 _ hxl
 obtain ⟨now',er,hnow⟩:=Afo n (by omega) l ok t _ _ hx0 hxl hf hlast
 rw [e4] at er
 cases er
 obtain ⟨⟨W,same,e⟩,hr,hfine⟩:=W8 n (by omega) l ok ec c t now k fix hfix hk e4 hnow.nb n1
 rw [e1]
 rcases hfine with h|⟨h0,h⟩
 ·have h:e≠0:=h
  refine ⟨([],e),?_,fun h'=>absurd h' h⟩
  unfold Le
  rw [hr,Option.bind_some]
  show (bif (e !=0) then _ else _)=_
  rw [bne_iff_ne.2 h,cond_true]
 have h0:e=0:=h0
 subst h0
 rcases h with h|⟨h1,h2,h3,h4⟩
 ·have h:same=true:=h
  subst h
  refine ⟨(l,0),?_,fun _=>⟨ok,ec⟩⟩
  unfold Le
  rw [hr,Option.bind_some,Io (by omega) (by omega)]
  rfl
 have h1:same=false:=h1
 subst h1
 have hb:=vU l t
 have h2:W.length≤66:=h2
 have hcat:R8 48 ([Ok l t,([(⟨now.Ac,now.Ak,now.Aj,now.Ad,now.Ay,now.Br⟩:Ab)]:List Ab),W]:List (List Ab))=some (Ok l t++now::W):=by
  rw [Abv (by simp) (by simp;omega)]
  simp
 have hend:Le n l c t now k fix=bif (decide (((Ok l t++now::W).length:Int)>(64))) then some ([],(2)) else some (Ok l t++now::W,(0)):=by
  unfold Le
  rw [hr,Option.bind_some]
  show (bif ((0:Int) !=0) then _ else bif false then _ else (R8 48 ([Ok l t,([(⟨now.Ac,now.Ak,now.Aj,now.Ad,now.Ay,now.Br⟩:Ab)]:List Ab),W]:List (List Ab))).bind _)=_
  rw [hcat]
  rfl
 rw [hend]
 by_cases h64:((Ok l t++now::W).length:Int)>64
 ·rw [decide_eq_true h64,cond_true]
  exact ⟨_,rfl,fun h=>by cases h⟩
 rw [decide_eq_false h64,cond_false]
 have mok:Cy (Ok l t++now::W):=h4 (by show (Ok l t++now::W).length≤64;omega)
 exact ⟨_,rfl,fun _=>⟨mok,Xb n (by omega) _ mok⟩⟩
theorem Tl (n:Nat) (hn:Yv n) {a b:List Ab} (ha:Cy a) (hb:Cy b) (ca:K7 n a=some 0) (cb:K7 n b=some 0) (s:Ea) (hs:fX n s=some 0):
  ∃r,lZ n a b s=some r∧(r.2=0∨r.2=8):=by
 obtain ⟨L,hL⟩:=fU n hn ha hb ca cb s
 have hp:g49 n a b s=some (L,0):=by
  unfold g49
  rw [tG n s hs [a,b] (by simp) hn (by simp [ca,cb]),Option.bind_some,show ((0:Int) !=0)=false from rfl,cond_false,hL]
  rfl
 unfold lZ
 rw [hp,Option.bind_some,show ((0:Int) !=0)=false from rfl,cond_false]
 cases L with
 |nil=>exact ⟨(0,8),rfl,.inr rfl⟩
 |cons x L=>
  rw [show (((x::L).length:Int)==0)=false by simp;omega,cond_false]
  have:Dq (x::L) 0=some x:=Cg (i:=0) rfl
  rw [show ((x::L),(0:Int)).1=x::L from rfl,this]
  exact ⟨(x.Sr,0),rfl,.inl rfl⟩
theorem aT {α ρ σ:Type} {S:σ→Option (σ⊕ρ)} (f:Nat→σ) (m:σ→Nat) (l:List α) (hm:∀i,m (f i)=l.length-i) (P:Nat→α→Prop) (bad:Nat→α→ρ→Prop) (good:ρ) (h:∀(i:Nat) (x:α),l[i]?=some x→(S (f i)=some (.inl (f (i+1)))∧P i x)∨∃r,S (f i)=some (.inr r)∧bad i x r) (h0:S (f l.length)=some (.inr good)) (n:Nat) (hn:l.length<n):
  ∃r,Bt S n (f 0)=some r∧((∃i x,l[i]?=some x∧bad i x r∧∀(j:Nat) (y:α),j<i→l[j]?=some y→P j y)∨r=good∧∀(i:Nat) (x:α),l[i]?=some x→P i x):=by
 refine E7 (fun x=>∃i:Nat,i≤l.length∧x=f i∧∀(j:Nat) (x:α),j<i→l[j]?=some x→P j x) _ m ?_ n _ ⟨0,Nat.zero_le _,rfl,fun j x h=>absurd h (Nat.not_lt_zero _)⟩ (by rw [hm];omega)
 rintro _ ⟨i,hi,rfl,hP⟩
 rcases Nat.lt_or_ge i l.length with hlt|hge
 ·rcases h i _ (List.getElem?_eq_getElem hlt) with ⟨k,k1⟩|⟨r,k,k1⟩
  ·refine .inl ⟨_,k,⟨i+1,hlt,rfl,fun j x hj hx=> ?_⟩,by rw [hm,hm];omega⟩
   rcases Nat.lt_or_ge j i with h'|h'
   ·exact hP j x h' hx
   ·have:j=i:=by omega
    subst this
    rw [List.getElem?_eq_getElem hlt] at hx
    cases hx
    exact k1
  ·exact .inr ⟨r,k,.inl ⟨i,_,List.getElem?_eq_getElem hlt,k1,hP⟩⟩
 ·have:i=l.length:=by omega
  subst this
  exact .inr ⟨good,h0,.inr ⟨rfl,fun j x hx=>hP j x (Fi hx) hx⟩⟩
def Clear (n:Nat) (l:List (List Ab)) (i:Int) (m:List Ab) (s:Ea):Prop:=∀(k:Nat) (x:List Ab),l[k]?=some x→(k:Int)≠i→∃r,lZ n m x s=some (r,8)
section
variable {n:Nat} (hn:Yv n) {l:List (List Ab)} (hl:l.length≤24) (hok:∀x∈l,Cy x∧K7 n x=some 0) (i:Int) {m:List Ab} (hm:Cy m) (cm:K7 n m=some 0) {s:Ea} (hs:fX n s=some 0)
include hn hl hok hm cm hs
theorem Ys:∃b,yI n l i m s=some b∧(b=true↔Clear n l i m s):=by
 unfold yI
 obtain ⟨r,hr,hq⟩:=J8 (S:=fun y:Int=>Ld n i m false l (l.length:Int) s.Bu s.Bj y) l (fun k x=>(k:Int)≠i→∃r,lZ n m x s=some (r,8)) (fun r=>r=false∧¬Clear n l i m s) true (fun k x hx=>by
  have:=Fi hx
  obtain ⟨h1,h2⟩:=hok x (List.mem_of_getElem? hx)
  obtain ⟨⟨u,e⟩,hf,h⟩:=Tl n hn hm h1 cm h2 s hs
  show (Ld n i m false l (l.length:Int) s.Bu s.Bj (k:Int)=_∧_)∨∃r,Ld n i m false l (l.length:Int) s.Bu s.Bj (k:Int)=some (.inr r)∧_
  unfold Ld
  rw [decide_eq_true (show (k:Int)<_ by omega),cond_true,Cg hx,Option.bind_some,wS (by omega)]
  by_cases hk:(k:Int)=i
  ·rw [show ((k:Int) !=i)=false by rw [hk];exact bne_self_eq_false _,cond_false]
   exact .inl ⟨rfl,fun h=>absurd hk h⟩
  rw [bne_iff_ne.2 hk,cond_true]
  rw [show (⟨s.Bu,s.Bj⟩:Ea)=s from rfl,hf,Option.bind_some]
  rcases h with h|h
  ·have h:e=0:=h
   subst h
   refine .inr ⟨false,rfl,rfl,fun hc=> ?_⟩
   obtain ⟨r,hr⟩:=hc k x hx hk
   rw [hf] at hr
   cases hr
  ·have h:e=8:=h
   subst h
   exact .inl ⟨rfl,fun _=>⟨u,rfl⟩⟩) (by
  show Ld n i m false l (l.length:Int) s.Bu s.Bj (l.length:Int)=_
  unfold Ld
  rw [decide_eq_false (Int.lt_irrefl _)];rfl) n (by unfold Yv at hn;omega)
 refine ⟨r,hr,?_⟩
 rcases hq with ⟨rfl,h⟩|⟨rfl,h⟩
 ·exact ⟨fun h'=>(by cases h'),fun h'=>absurd h' h⟩
 ·exact ⟨fun _=>h,fun _=>rfl⟩
theorem Zd:∃b,g10 n l i m s=some b∧(b=true↔Clear n l i m s):=by
 unfold g10
 obtain ⟨r,hr,hq⟩:=J8 (S:=fun y:Int=>Lt n i m false l (l.length:Int) s.Bu s.Bj y) l (fun k x=>(k:Int)≠i→∃r,lZ n m x s=some (r,8)) (fun r=>r=false∧¬Clear n l i m s) true (fun k x hx=>by
  have:=Fi hx
  obtain ⟨h1,h2⟩:=hok x (List.mem_of_getElem? hx)
  obtain ⟨⟨u,e⟩,hf,h⟩:=Tl n hn hm h1 cm h2 s hs
  show (Lt n i m false l (l.length:Int) s.Bu s.Bj (k:Int)=_∧_)∨∃r,Lt n i m false l (l.length:Int) s.Bu s.Bj (k:Int)=some (.inr r)∧_
  unfold Lt
  rw [decide_eq_true (show (k:Int)<_ by omega),cond_true,Cg hx,Option.bind_some,wS (by omega)]
  by_cases hk:(k:Int)=i
  ·rw [show ((k:Int)==i)=true from beq_iff_eq.2 hk,cond_true]
   exact .inl ⟨rfl,fun h=>absurd hk h⟩
  rw [show ((k:Int)==i)=false from beq_eq_false_iff_ne.2 hk,cond_false]
  rw [show (⟨s.Bu,s.Bj⟩:Ea)=s from rfl,hf,Option.bind_some]
  rcases h with h|h
  ·have h:e=0:=h
   subst h
   refine .inr ⟨false,rfl,rfl,fun hc=> ?_⟩
   obtain ⟨r,hr⟩:=hc k x hx hk
   rw [hf] at hr
   cases hr
  ·have h:e=8:=h
   subst h
   exact .inl ⟨rfl,fun _=>⟨u,rfl⟩⟩) (by
  show Lt n i m false l (l.length:Int) s.Bu s.Bj (l.length:Int)=_
  unfold Lt
  rw [decide_eq_false (Int.lt_irrefl _)];rfl) n (by unfold Yv at hn;omega)
 refine ⟨r,hr,?_⟩
 rcases hq with ⟨rfl,h⟩|⟨rfl,h⟩
 ·exact ⟨fun h'=>(by cases h'),fun h'=>absurd h' h⟩
 ·exact ⟨fun _=>h,fun _=>rfl⟩
end
end Go.Proofs.YtmhnnmfcjdnlhaaGreatDoor
set_option linter.unusedVariables false
set_option linter.unusedSimpArgs false
set_option maxHeartbeats 4000000
namespace Go.Proofs.YtmhnnmfcjdnlhaaGreatDoor
theorem gH (n:Nat) (s:Ea):fX n s=some 0∨∃z,z≠0∧fX n s=some z:=by
 unfold fX
 cases decide (s.Bu<0)<;>cases decide (s.Bu>1000000)<;>cases decide (s.Bj<0)<;>cases decide (s.Bj>60000)<;>first|exact .inl rfl|exact .inr ⟨4,by decide,rfl⟩
theorem Aaj (n:Nat) (hn:1000<n) (L:List Ab) (hl:L.length≤100):g9 n L L=some true:=by
 unfold g9
 rw [bne_self_eq_false,cond_false]
 have:=aP L L rfl (S:=fun y:Int=>Sw n L L false (L.length:Int) y) (fun i x y hx hy=>by
  have hi:=Fi hx
  show Sw n L L false (L.length:Int) (i:Int)=_
  unfold Sw
  have hxy:x=y:=by rw [hx] at hy;exact Option.some.inj hy
  subst hxy
  rw [decide_eq_true (show (i:Int)<(L.length:Int) by omega),Cg hx,wS (by omega)]
  simp only [cond_true,Option.bind_some]
  simp) (by
  show Sw n L L false (L.length:Int) (L.length:Int)=_
  unfold Sw
  rw [decide_eq_false (show ¬(L.length:Int)<(L.length:Int) by omega)];rfl) n (by omega)
 rw [this,decide_eq_true rfl]
section
variable {n:Nat} (hn:Yv n) {l:List (List Ab)} (hl:l.length≤24) (hok:∀x∈l,Cy x∧K7 n x=some 0) (i:Int) (s:Ea)
include hn hl hok
theorem gV:(∃z,z≠0∧g18 n l i s=some z)∨(g18 n l i s=some 0∧fX n s=some 0∧0≤i∧i<(l.length:Int)):=by
 have loop:∀v:Int,Ka n l i (0) (l.length:Int) (l.length:Int)=some (.inr v)→Bt (fun y:Int=>Ka n l i (0) (l.length:Int) y) n (0)=some v:=fun v h0=>by
  obtain ⟨r,hr,hq⟩:=J8 (S:=fun y:Int=>Ka n l i (0) (l.length:Int) y) l (fun _ _=>True) (fun _=>False) v (fun k x hx=>by
   have:=Fi hx
   refine .inl ⟨?_,trivial⟩
   show Ka n l i (0) (l.length:Int) (k:Int)=_
   unfold Ka
   rw [decide_eq_true (show (k:Int)<_ by omega),cond_true,Cg hx,Option.bind_some,(hok x (List.mem_of_getElem? hx)).2,Option.bind_some,show ((0:Int) !=0)=false from rfl,cond_false,wS (by omega)]) h0 n (by unfold Yv at hn;omega)
  rcases hq with k|⟨rfl,-⟩
  ·exact k.elim
  ·exact hr
 unfold g18
 rcases gH n s with e|⟨z,hz,e⟩
 case inr=>rw [e,Option.bind_some,bne_iff_ne.2 hz,cond_true];exact .inl ⟨z,hz,rfl⟩
 rw [e,Option.bind_some,show ((0:Int) !=0)=false from rfl,cond_false,decide_eq_false (show ¬(l.length:Int)>24 by omega),cond_false]
 by_cases h1:i<0
 ·refine .inl ⟨4,by decide,loop 4 ?_⟩
  unfold Ka
  rw [decide_eq_false (Int.lt_irrefl _),cond_false,decide_eq_true h1,cond_true]
 by_cases h2:i≥(l.length:Int)
 ·refine .inl ⟨4,by decide,loop 4 ?_⟩
  unfold Ka
  rw [decide_eq_false (Int.lt_irrefl _),cond_false,decide_eq_false h1,cond_false,decide_eq_true h2,cond_true]
 refine .inr ⟨loop 0 ?_,rfl,by omega,by omega⟩
 unfold Ka
 rw [decide_eq_false (Int.lt_irrefl _),cond_false,decide_eq_false h1,cond_false,decide_eq_false h2,cond_false]
def Acc (n:Nat) (l:List (List Ab)) (i:Int) (own:List Ab) (t:Int) (k:Dm) (s:Ea) (c:Ae):Prop:=∃m,g8 n own c t k ⟨0,0⟩=some (m,0)∧Clear n l i m s
theorem Zs (call:ByteArray) (t:Int) (k:Dm):(∃z,z≠0∧g6 n l i s call t k=some ((⟨(⟨#[]⟩:ByteArray),(0),(0),(⟨#[]⟩:ByteArray)⟩:Ae),[],z))∨
  (fX n s=some 0∧∃(own:List Ab) (L:List Ae) (j:Nat) (c:Ae) (m:List Ab),Dq l i=some own∧g7 n call own t k=some (L,0)∧L.length≤100∧L[j]?=some c∧g6 n l i s call t k=some (c,m,0)∧g8 n own c t k ⟨0,0⟩=some (m,0)∧Clear n l i m s∧∀(j':Nat) (y:Ae),j'<j→L[j']?=some y→¬Acc n l i own t k s y):=by
 have hb:4000000000<n:=hn
 unfold g6
 rcases gV hn hl hok i s with ⟨z,hz,e⟩|⟨e,hs,i0,i1⟩
 ·rw [e,Option.bind_some,bne_iff_ne.2 hz,cond_true];exact .inl ⟨z,hz,rfl⟩
 rw [e,Option.bind_some,show ((0:Int) !=0)=false from rfl,cond_false]
 obtain ⟨w,rfl⟩:∃w:Nat,i=(w:Int):=⟨i.toNat,by omega⟩
 have hx:l[w]?=some l[w]:=List.getElem?_eq_getElem (by omega)
 generalize l[w]=own at hx
 obtain ⟨ho,co⟩:=hok own (List.mem_of_getElem? hx)
 rw [Cg hx,Option.bind_some]
 rcases aY n (by omega) call own t k with ⟨z,hz,e⟩|⟨H,S,A,J,e,hJ,-⟩
 ·rw [e,Option.bind_some,bne_iff_ne.2 hz,cond_true];exact .inl ⟨z,hz,rfl⟩
 have hL:(J.map (cf call H S A)).length≤100:=by
  rw [List.length_map]
  exact Nat.le_trans hJ.len (by decide)
 rw [e,Option.bind_some]
 dsimp only
 rw [show ((0:Int) !=0)=false from rfl,cond_false,Option.bind_some]
 obtain ⟨b,hb1,-⟩:=Ys hn hl hok (w:Int) ho co hs
 rw [hb1,Option.bind_some]
 cases b
 case true=>rw [cond_true];exact .inl ⟨11,by decide,rfl⟩
 rw [cond_false]
 generalize J.map (cf call H S A)=L at*
 obtain ⟨r,hr,hq⟩:=aT (S:=fun y:Int×ByteArray×Int×Int×ByteArray=>Qc n l (w:Int) t (0) L (L.length:Int) s.Bu s.Bj k.Name k.D9 k.B6 k.C1 k.Ca k.Dy k.Dz (⟨#[]⟩:ByteArray) y.1 y.2.1 y.2.2.1 y.2.2.2.1 y.2.2.2.2) (fun q=>((q:Int),(⟨#[]⟩:ByteArray),(0:Int),(0:Int),(⟨#[]⟩:ByteArray))) (fun y=>L.length-y.1.toNat) L (fun q=>by simp) (fun _ y=>¬Acc n l (w:Int) own t k s y) (fun j c r=>∃m,r=(c,m,0)∧g8 n own c t k ⟨0,0⟩=some (m,0)∧Clear n l (w:Int) m s) ((⟨(⟨#[]⟩:ByteArray),(0),(0),(⟨#[]⟩:ByteArray)⟩:Ae),[],(8)) (fun q c hc=>by
  have hlt:=Fi hc
  show (Qc n l (w:Int) t (0) L (L.length:Int) s.Bu s.Bj k.Name k.D9 k.B6 k.C1 k.Ca k.Dy k.Dz (⟨#[]⟩:ByteArray) (q:Int) (⟨#[]⟩:ByteArray) (0) (0) (⟨#[]⟩:ByteArray)=_∧_)∨∃r,Qc n l (w:Int) t (0) L (L.length:Int) s.Bu s.Bj k.Name k.D9 k.B6 k.C1 k.Ca k.Dy k.Dz (⟨#[]⟩:ByteArray) (q:Int) (⟨#[]⟩:ByteArray) (0) (0) (⟨#[]⟩:ByteArray)=some (.inr r)∧_
  unfold Qc
  rw [decide_eq_true (show (q:Int)<_ by omega),cond_true,Cg hc,Option.bind_some,Cg hx,Option.bind_some,wS (by omega)]
  obtain ⟨⟨m,z⟩,he,hm⟩:=Wq n (by omega) own c t k ⟨0,0⟩
  rw [show (⟨k.Name,k.D9,k.B6,k.C1,k.Ca,k.Dy,k.Dz⟩:Dm)=k from rfl,he,Option.bind_some]
  dsimp only
  by_cases hz:z=0
  ·subst hz
   obtain ⟨m1,m2⟩:=hm rfl
   obtain ⟨b,hb1,hb2⟩:=Ys hn hl hok (w:Int) m1 m2 hs
   rw [show ((0:Int)==0)=true from rfl,cond_true,show (⟨s.Bu,s.Bj⟩:Ea)=s from rfl,hb1,Option.bind_some]
   cases b
   ·refine .inl ⟨rfl,fun ⟨m',h1,h2⟩=> ?_⟩
    rw [he] at h1
    cases h1
    have:=hb2.2 h2
    cases this
   ·exact .inr ⟨_,rfl,m,rfl,(by first|exact he|rfl),hb2.1 rfl⟩
  ·rw [beq_eq_false_iff_ne.2 hz,cond_false]
   refine .inl ⟨rfl,fun ⟨m',h1,h2⟩=> ?_⟩
   rw [he] at h1
   cases h1
   exact hz rfl) (by
  show Qc n l (w:Int) t (0) L (L.length:Int) s.Bu s.Bj k.Name k.D9 k.B6 k.C1 k.Ca k.Dy k.Dz (⟨#[]⟩:ByteArray) (L.length:Int) (⟨#[]⟩:ByteArray) (0) (0) (⟨#[]⟩:ByteArray)=_
  unfold Qc
  rw [decide_eq_false (Int.lt_irrefl _)];rfl) n (by omega)
 rw [show Bt (fun y:Int×ByteArray×Int×Int×ByteArray=>Qc n l (w:Int) t (0) L (L.length:Int) s.Bu s.Bj k.Name k.D9 k.B6 k.C1 k.Ca k.Dy k.Dz (⟨#[]⟩:ByteArray) y.1 y.2.1 y.2.2.1 y.2.2.2.1 y.2.2.2.2) n ((0),(⟨#[]⟩:ByteArray),(0),(0),(⟨#[]⟩:ByteArray))=some r from hr]
 rcases hq with ⟨j,c,hc,⟨m,rfl,k1,k2⟩,k3⟩|⟨rfl,-⟩
 ·exact .inr ⟨hs,own,L,j,c,m,(by first|exact Cg hx|rfl),(by first|exact e|rfl),hL,hc,rfl,k1,k2,k3⟩
 ·exact .inl ⟨8,by decide,rfl⟩
end
theorem jJ (n:Nat) (hn:Yv n) (l:List (List Ab)) (i:Int) (s:Ea) (t:Int) (k:Dm):g3 n l i s t k=some true:=by
 have hb:4000000000<n:=hn
 unfold g3 g4
 rw [Option.bind_some,Bool.not_true,cond_false]
 by_cases h4:(l.length:Int)>4
 ·have:g5 n l 4 200=some false:=by
   unfold g5
   rw [decide_eq_true h4,cond_true]
  rw [this];rfl
 rcases Xx n (by omega) l 4 200 (by omega) (by omega) with ⟨e,hsm⟩|e
 case inr=>rw [e];rfl
 rw [e,Option.bind_some,Bool.not_true,cond_false]
 have hl:l.length≤24:=by omega
 have hok:∀x∈l,Cy x∧K7 n x=some 0:=fun x hx=>⟨(hsm x hx).2.1,(hsm x hx).1⟩
 rcases Zs hn hl hok i s (⟨#[65,49]⟩:ByteArray) t k with ⟨z,hz,e1⟩|⟨hs,own,L,j,c,m,ho,hL,hl2,hj,e1,k1,k2,k3⟩
 ·rw [e1,Option.bind_some]
  dsimp only
  rw [bne_iff_ne.2 hz,cond_true]
  rfl
 rw [e1,Option.bind_some]
 dsimp only
 rw [show ((0:Int) !=0)=false from rfl,cond_false,ho,Option.bind_some,hL,Option.bind_some]
 dsimp only
 rw [show ((0:Int) !=0)=false from rfl,cond_false]
 have hjl:=Fi hj
 refine N5 (fun y=>∃q:Nat,y=(q:Int)∧q≤j) true (fun y=>L.length-y.toNat) (fun y ⟨q,hy,hq⟩=> ?_) n _ ⟨0,rfl,by omega⟩ (by show L.length-(0:Int).toNat<n;omega)
 subst hy
 unfold gS
 have hx:L[q]?=some L[q]:=List.getElem?_eq_getElem (by omega)
 generalize L[q]=x at hx
 rw [decide_eq_true (show (q:Int)<(L.length:Int) by omega),cond_true,Cg hx,Option.bind_some,ho,Option.bind_some,show (⟨k.Name,k.D9,k.B6,k.C1,k.Ca,k.Dy,k.Dz⟩:Dm)=k from rfl,show (⟨s.Bu,s.Bj⟩:Ea)=s from rfl,show (⟨c.Call,c.Kind,c.Value,c.Fix⟩:Ae)=c from rfl]
 by_cases hxc:x=c
 ·right
  subst hxc
  rw [k1,Option.bind_some,decide_eq_true rfl,cond_true]
  dsimp only
  obtain ⟨r,er,hm⟩:=Wq n (by omega) own x t k ⟨0,0⟩
  rw [k1] at er
  cases er
  obtain ⟨m1,m2⟩:=hm rfl
  obtain ⟨b,b1,b2⟩:=Zd hn hl hok i m1 m2 hs
  rw [show ((0:Int)==0)=true from rfl,cond_true,Aaj n (by omega) m (by have:m.length≤64:=m1.len;omega),Option.bind_some,cond_true,b1,Option.bind_some,b2.2 k2]
 ·rcases Nat.lt_or_ge q j with hqj|hqj
  ·left
   have hno:=k3 q x hqj hx
   obtain ⟨⟨m',z⟩,he,hm⟩:=Wq n (by omega) own x t k ⟨0,0⟩
   rw [he,Option.bind_some,decide_eq_false hxc,cond_false,wS (by omega)]
   dsimp only
   refine ⟨((q+1:Nat):Int),?_,⟨q+1,rfl,by omega⟩,by show L.length-((q+1:Nat):Int).toNat<L.length-(q:Int).toNat;omega⟩
   by_cases hz:z=0
   ·subst hz
    obtain ⟨m1,m2⟩:=hm rfl
    obtain ⟨b,b1,b2⟩:=Zd hn hl hok i m1 m2 hs
    rw [show ((0:Int)==0)=true from rfl,cond_true,b1,Option.bind_some]
    cases b
    ·rfl
    ·exact absurd ⟨m',he,b2.1 rfl⟩ hno
   ·rw [beq_eq_false_iff_ne.2 hz,cond_false]
  ·exfalso
   have:q=j:=by omega
   subst this
   rw [hx] at hj
   cases hj
   exact hxc rfl
end Go.Proofs.YtmhnnmfcjdnlhaaGreatDoor
