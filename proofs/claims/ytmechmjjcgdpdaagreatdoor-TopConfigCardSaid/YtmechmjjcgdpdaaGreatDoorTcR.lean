/- Parts Tc2, Tc3. -/
import Derived.Test.YtmechmjjcgdpdaaGreatDoorTcA
set_option linter.unusedVariables false
set_option linter.unusedSimpArgs false
set_option maxHeartbeats 2000000
namespace Go.Proofs.YtmechmjjcgdpdaaGreatDoor
theorem Uf (n:Nat) (a m:Int) (hm:0<m∧m≤1000):∃r:Int,g7 n a m=some r∧0≤r∧r<m:=by
 unfold g7
 have e:IntKind.wrap .u64 m=m:=by
  show m % (2 ^ 64:Int)=m
  omega
 have h0:0≤IntKind.wrap .u64 a:=by
  show 0≤a % (2 ^ 64:Int)
  omega
 rw [e]
 unfold Nh
 rw [if_neg (by omega),Option.bind_some,Int.tmod_eq_emod_of_nonneg h0]
 have h1:=Int.emod_nonneg (IntKind.wrap .u64 a) (show m≠0 by omega)
 have h2:=Int.emod_lt_of_pos (IntKind.wrap .u64 a) (show 0<m by omega)
 rw [wrap64 (by omega) (by omega)]
 exact ⟨_,rfl,h1,h2⟩
def F8 (G:List Ab):List ByteArray:=G.flatMap (·.Ak)
theorem nL (n:Nat):∀(r p:List ByteArray),(∀s∈r,Vn n s)→(p++r).Nodup→cN n r p=some 0
 |[],p,_,_=>rfl
 |s::r,p,hv,hd=>by
  have h1:j7 n s=some true:=hv s (List.mem_cons_self ..)
  have h2:Gc p s=false:=by
   rw [gG,Bool.eq_false_iff]
   intro h
   have:=Ib.1 h
   exact (List.nodup_append.1 hd).2.2 s this s (List.mem_cons_self ..) rfl
  rw [cN,h1,Option.bind_some,Bool.not_true,cond_false,h2,cond_false]
  exact nL n r (p++[s]) (fun x hx=>hv x (List.mem_cons_of_mem _ hx)) (by rw [List.append_assoc];exact hd)
theorem fF:∀N:List ByteArray,F8 (N.map Nw)=N
 |[]=>rfl
 |s::N=>by
  show [s]++F8 (N.map Nw)=s::N
  rw [fF N];rfl
theorem tD (n:Nat) (N:List ByteArray) (h0:N.length≠0) (h1:N.length≤12) (hv:∀s∈N,Vn n s) (hd:N.Nodup):∃G,g6 n N=some (G,0)∧Gd (Vn n) G∧(F8 G).Perm N:=by
 have hp:(N.map Nw).map (·.Position)=N:=by rw [List.map_map];exact List.map_id _
 obtain ⟨R,e,hR,hs⟩:=fG (K:=N.map Nw) (by rw [hp];exact hd) (by rw [List.length_map];omega)
 have hflat:(F8 R).Perm N:=by
  have:=Kc hR
  have e2:=fF N
  unfold F8 at e2 ⊢
  rw [e2] at this
  exact this
 have hnd:(R.map (·.Position)).Nodup:=((hR.map (·.Position)).nodup_iff).2 (by rw [hp];exact hd)
 refine ⟨R,?_,⟨wM hs hnd,fun g hg=> ?_,(hflat.nodup_iff).2 hd,by rw [show (R.flatMap (·.Ak)).length=N.length from hflat.length_eq];exact h1⟩,hflat⟩
 ·unfold g6
  rw [if_neg h0,if_neg (by omega),nL n N [] hv hd,Option.bind_some,show ((0:Int) !=0)=false from rfl,cond_false]
  have e:Gs (fun a b=>some (Go.Lib.compareBytes a.Position.data.toList b.Position.data.toList)) (N.map Nw)=some R:=e
  rw [e];rfl
 ·obtain ⟨s,hs,rfl⟩:=List.mem_map.1 (hR.mem_iff.1 hg)
  exact ⟨hv s hs,by simp [Nw],fun x hx=>by rw [List.mem_singleton.1 hx];exact hv s hs,List.pairwise_singleton _ _⟩
theorem jE (n:Nat) (hn:1000<n) (G:List Ab) (hG:G.length≤100) (N:List ByteArray) (h0:N.length≠0) (hN:N.length≤100):∃s,g10 n G N=some s:=by
 have cf:∀s,∃b,g52 n G s=some b:=fun s=>by
  unfold g52 T4
  refine Dk (F1 G.length (fun i hi=> ?_) (fun i hi=> ?_) n 0 (by omega)) fun _=>⟨_,rfl⟩
  ·have hx:G[i]?=some G[i]:=List.getElem?_eq_getElem hi
   generalize G[i]=g at hx
   show Fe n G s (0) (G.length:Int) (i:Int)=_∨∃r,Fe n G s (0) (G.length:Int) (i:Int)=_
   unfold Fe g53
   rw [decide_eq_true (show (i:Int)<_ by omega),cond_true,Bv hx,Option.bind_some,Option.bind_some,wS (by omega)]
   cases (g.Position.toList==s.toList)
   ·exact .inl rfl
   ·exact .inr ⟨_,rfl⟩
  ·show ∃r,Fe n G s (0) (G.length:Int) (i:Int)=_
   unfold Fe
   rw [decide_eq_false (show ¬(i:Int)<_ by omega)]
   exact ⟨_,rfl⟩
 unfold g10
 refine F1 N.length (fun i hi=> ?_) (fun i hi=> ?_) n 0 (by omega)
 ·have hx:N[i]?=some N[i]:=List.getElem?_eq_getElem hi
  generalize N[i]=s at hx
  obtain ⟨b,hb⟩:=cf s
  show Nn n G N (⟨#[]⟩:ByteArray) (N.length:Int) (i:Int)=_∨∃r,Nn n G N (⟨#[]⟩:ByteArray) (N.length:Int) (i:Int)=_
  unfold Nn
  rw [decide_eq_true (show (i:Int)<_ by omega),cond_true,Bv hx,Option.bind_some,hb,Option.bind_some,wS (by omega)]
  cases b
  ·exact .inr ⟨_,rfl⟩
  ·exact .inl rfl
 ·have hx:N[0]?=some N[0]:=List.getElem?_eq_getElem (by omega)
  show ∃r,Nn n G N (⟨#[]⟩:ByteArray) (N.length:Int) (i:Int)=_
  unfold Nn
  rw [decide_eq_false (show ¬(i:Int)<_ by omega),cond_false,show Cd N 0=some N[0] from Bv (i:=0) hx]
  exact ⟨_,rfl⟩
theorem Ya {V:ByteArray→Prop} {G:List Ab} (h:Gd V G):G.length≤12:=Nat.le_trans (U2 (V:=V) fun g hg=>(h.V1 g hg).2.1) h.all
def isS (s x:ByteArray):Bool:=s.toList==x.toList
theorem vN (n:Nat) (N:List ByteArray) (hN:N.length≤100) (hn:100<n) (s:ByteArray):g11 n N s=some (Dq (isS s) N):=by
 unfold g11
 exact Jb (isS s) N (by omega) (S:=fun y:Int=>J4 n N s (0) (N.length:Int) y) (fun i x hx=>by
  have:=Dt hx
  show J4 n N s (0) (N.length:Int) (i:Int)=_
  unfold J4 isS
  rw [decide_eq_true (show (i:Int)<_ by omega),cond_true,Bv hx,Option.bind_some,wS (by omega)]
  cases (s.toList==x.toList)<;>rfl) (by
  show J4 n N s (0) (N.length:Int) (N.length:Int)=_
  unfold J4
  rw [decide_eq_false (Int.lt_irrefl _)];rfl) n (by omega)
def wt (N:List ByteArray) (L:List Int) (s:ByteArray):Int:=(L[(Dq (isS s) N).toNat]?).getD 0
theorem nY {s x:ByteArray}:isS s x=true↔s=x:=by
 unfold isS
 rw [beq_iff_eq]
 exact ⟨str_inj,fun h=>by rw [h]⟩
theorem kQ {N:List ByteArray} {s:ByteArray} (hs:s∈N):0≤Dq (isS s) N∧Dq (isS s) N<(N.length:Int):=by
 have h1:=Mb (isS s) N
 have h2:=(Qg (isS s) N).2
 refine ⟨?_,h2⟩
 rcases Int.lt_or_le (Dq (isS s) N) 0 with h|h
 ·have:=h1.1 h s hs
  rw [nY.2 rfl] at this
  cases this
 ·exact h
theorem Anh {N:List ByteArray} (hd:N.Nodup) {L:List Int} (hL:L.length=N.length) {i:Nat} {s:ByteArray} (hs:N[i]?=some s):L[i]?=some (wt N L s):=by
 obtain ⟨h1,h2⟩:=kQ (List.mem_of_getElem? hs)
 obtain ⟨x,k1,k2,-⟩:=Z1 (isS s) N h1
 obtain rfl:=nY.1 k2
 have hi:(Dq (isS s) N).toNat=i:=by
  have a1:=Dt k1
  have a2:=Dt hs
  have e1:=(List.getElem?_eq_some_iff.1 k1).2
  have e2:=(List.getElem?_eq_some_iff.1 hs).2
  have hpw:=List.pairwise_iff_getElem.1 hd
  rcases Nat.lt_trichotomy (Dq (isS s) N).toNat i with q|q|q
  ·exact absurd (e1.trans e2.symm) (hpw _ _ a1 a2 q)
  ·exact q
  ·exact absurd (e2.trans e1.symm) (hpw _ _ a2 a1 q)
 unfold wt
 rw [hi]
 have:L[i]?=some L[i]:=List.getElem?_eq_getElem (by have:=Dt hs;omega)
 rw [this];rfl
theorem Ais {N:List ByteArray} (hd:N.Nodup) {L:List Int} (hL:L.length=N.length):N.map (wt N L)=L:=by
 apply List.ext_getElem?
 intro i
 rw [List.getElem?_map]
 rcases Nat.lt_or_ge i N.length with h|h
 ·have hs:N[i]?=some N[i]:=List.getElem?_eq_getElem h
  rw [hs,Anh hd hL hs];rfl
 ·rw [List.getElem?_eq_none h,List.getElem?_eq_none (by omega)];rfl
theorem Acp (n:Nat) (hn:30<n) {G:List Ab} (h:Gd (Vn n) G) {g:Ab} (hg:g∈G) {s:ByteArray} (hs:s∈g.Ak):g12 n G s=some (g.Position,0):=by
 have hf:fnd G s=g.Position:=Agj h ⟨g,hg,rfl,hs⟩
 have hm:s∈nms G:=(Kz _).mem_iff.2 (List.mem_flatMap.2 ⟨g,hg,hs⟩)
 have hne:=Akf (h.ok hn).2 hm
 unfold g12
 rw [(h.ok hn).1,Option.bind_some,show ((0:Int) !=0)=false from rfl,cond_false,yB n hn G (h.ok hn).2 s,Option.bind_some,hne,cond_false,hf]
theorem jF (f:ByteArray→Int) (hf:∀s,0≤f s∧f s≤24):∀l:List ByteArray,0≤(l.map f).sum∧(l.map f).sum≤24*(l.length:Int)
 |[]=>by simp
 |s::l=>by
  have h1:=jF f hf l
  have h2:=hf s
  rw [List.map_cons,List.sum_cons,List.length_cons]
  omega
end Go.Proofs.YtmechmjjcgdpdaaGreatDoor
set_option linter.unusedVariables false
set_option linter.unusedSimpArgs false
set_option linter.unusedSectionVars false
set_option maxHeartbeats 4000000
namespace Go.Proofs.YtmechmjjcgdpdaaGreatDoor
theorem tX {a b:List Int} (h:a.Perm b):a.sum=b.sum:=by
 induction h with
 |nil=>rfl
 |cons x _ ih=>rw [List.sum_cons,List.sum_cons,ih]
 |swap x y l=>simp only [List.sum_cons];omega
 |trans _ _ h1 h2=>exact h1.trans h2
section
variable {n:Nat} (hn:4500<n) {G:List Ab} (h:Gd (Vn n) G) {N:List ByteArray} (hd:N.Nodup) (hN:N.length≤12) (hp:(F8 G).Perm N) {L:List Int} (hL:L.length=N.length) (hb:∀x∈L,0≤x∧x≤24)
include hn h hd hN hp hL hb
theorem Ahs (s:ByteArray):0≤wt N L s∧wt N L s≤24:=by
 unfold wt
 rcases hq:L[(Dq (isS s) N).toNat]? with _|x
 ·exact ⟨Int.le_refl _,by decide⟩
 ·exact hb x (List.mem_of_getElem? hq)
theorem pN {g:Ab} (hg:g∈G) (ts:List (List Ad)) (u Em Ga v:Int) (hv:0≤v∧v≤10000) (j:Nat) (hj:j<1000):
  A7 (fun y:Int×Int×List ByteArray=>Om n ts u false L Em G Ga (j:Int) g.Ak (g.Ak.length:Int) g.Position y.1 y.2.1 y.2.2) n (v,(0),N)=some (.inl (v+(g.Ak.map (wt N L)).sum,((j+1:Nat):Int),N)):=by
 have hw:=Ahs hn h hd hN hp hL hb
 have hgl:g.Ak.length≤12:=Nat.le_trans (Jo hg) h.all
 refine Hr (fun y=>∃k:Nat,y=(v+((g.Ak.take k).map (wt N L)).sum,(k:Int),N)∧k≤g.Ak.length) _ (fun y=>g.Ak.length-y.2.1.toNat) (fun y ⟨k,hy,hk⟩=> ?_) n _ ⟨0,by simp,by omega⟩ (by show g.Ak.length-(0:Int).toNat<n;omega)
 subst hy
 dsimp only
 unfold Om
 have hsb:=jF (wt N L) hw (g.Ak.take k)
 have htl:(g.Ak.take k).length≤12:=by rw [List.length_take];omega
 rcases Nat.lt_or_ge k g.Ak.length with hlt|hge
 ·left
  have hs:g.Ak[k]?=some g.Ak[k]:=List.getElem?_eq_getElem hlt
  generalize g.Ak[k]=s at hs
  have hsm:=List.mem_of_getElem? hs
  have hsN:s∈N:=hp.mem_iff.1 (List.mem_flatMap.2 ⟨g,hg,hsm⟩)
  obtain ⟨i1,i2⟩:=kQ hsN
  have hws:=hw s
  have hLi:Cd L (Dq (isS s) N)=some (wt N L s):=by
   obtain ⟨i,hi⟩:∃i:Nat,Dq (isS s) N=(i:Int):=⟨(Dq (isS s) N).toNat,by omega⟩
   have hx:L[i]?=some L[i]:=List.getElem?_eq_getElem (by omega)
   unfold wt
   rw [hi,Int.toNat_natCast,hx,Bv hx]
   rfl
  rw [decide_eq_true (show (k:Int)<_ by omega),cond_true,Bv hs,Option.bind_some,vN n N (by omega) (by omega) s,Option.bind_some,Acp n (by omega) h hg hsm,Option.bind_some,decide_eq_false (show ¬Dq (isS s) N<0 by omega),cond_false]
  dsimp only
  rw [show ((0:Int) !=0)=false from rfl,cond_false,beq_self_eq_true,Bool.not_true,cond_false,hLi,Option.bind_some,wS (by omega),wrap64 (by omega) (by omega)]
  refine ⟨_,rfl,⟨k+1,?_,hlt⟩,by show g.Ak.length-((k+1:Nat):Int).toNat<g.Ak.length-(k:Int).toNat;omega⟩
  rw [take_one hs,List.map_append,List.sum_append,List.map_cons,List.map_nil,List.sum_cons,List.sum_nil]
  congr 1
  omega
 ·right
  have hk':k=g.Ak.length:=by omega
  subst hk'
  rw [decide_eq_false (Int.lt_irrefl _),cond_false,List.take_length,wS (by omega)]
theorem uC (ts:List (List Ad)) (hts:ts.length≤24) (hok:∀t∈ts,eA n t=some 0∧Fg t) (u:Int):
  A7 (fun y:Int×Int×List ByteArray=>iT n u false 0 (nms G) ts (ts.length:Int) y.1 y.2.1 y.2.2) n ((ts.countP (Si n u):Int),(0),Dr N)=some true:=by
 have hc:∀i,((ts.take i).countP (Si n u))≤24:=fun i=>by
  have h1:=List.countP_le_length (p:=Si n u) (l:=ts.take i)
  rw [List.length_take] at h1
  omega
 refine Hr (fun y=>∃i:Nat,y=((ts.countP (Si n u):Int)-((ts.take i).countP (Si n u):Int),(i:Int),Dr N)∧i≤ts.length) _ (fun y=>ts.length-y.2.1.toNat) (fun y ⟨i,hy,hi⟩=> ?_) n _ ⟨0,by simp,by omega⟩ (by show ts.length-(0:Int).toNat<n;omega)
 subst hy
 dsimp only
 unfold iT
 have c1:=hc i
 have c2:=hc ts.length
 rw [List.take_length] at c2
 rcases Nat.lt_or_ge i ts.length with hlt|hge
 ·left
  have hx:ts[i]?=some ts[i]:=List.getElem?_eq_getElem hlt
  generalize ts[i]=t at hx
  obtain ⟨hck,htk⟩:=hok t (List.mem_of_getElem? hx)
  have hms:ts.length-((i+1:Nat):Int).toNat<ts.length-(i:Int).toNat:=by omega
  rw [decide_eq_true (show (i:Int)<_ by omega),cond_true,Bv hx,Option.bind_some,wS (by omega)]
  rcases X3 n (by omega) t hck htk u with ⟨q,hq⟩|hq
  ·have hh:Si n u t=true:=by unfold Si;rw [hq];rfl
   have hcnt:((ts.take (i+1)).countP (Si n u):Int)=((ts.take i).countP (Si n u):Int)+1:=by rw [take_one hx,List.countP_append];simp [hh]
   rw [hq,Option.bind_some]
   dsimp only
   rw [show ((0:Int)==0)=true from rfl,cond_true,wrap64 (by omega) (by omega)]
   exact ⟨_,rfl,⟨i+1,by rw [hcnt];congr 1;omega,hlt⟩,hms⟩
  ·have hh:Si n u t=false:=by unfold Si;rw [hq];rfl
   have hcnt:((ts.take (i+1)).countP (Si n u):Int)=((ts.take i).countP (Si n u):Int):=by rw [take_one hx,List.countP_append];simp [hh]
   rw [hq,Option.bind_some]
   dsimp only
   rw [show ((12:Int)==0)=false from rfl,cond_false]
   exact ⟨_,rfl,⟨i+1,by rw [hcnt],hlt⟩,hms⟩
 ·right
  have hi':i=ts.length:=by omega
  subst hi'
  have he:nms G=Dr N:=yH (hp.trans (Kz _).symm) (Ox _)
  have hnl:(nms G).length≤12:=by rw [Ab5];exact h.all
  rw [decide_eq_false (Int.lt_irrefl _),cond_false,show ((0:Int)==0)=true from rfl,cond_true,rG n (by omega) _ _ hnl,Option.bind_some,decide_eq_true he,cond_true,List.take_length,Int.sub_self]
  rfl
theorem sW (ts:List (List Ad)) (hts:ts.length≤24) (hok:∀t∈ts,eA n t=some 0∧Fg t) (u Em o:Int) (ho:0≤o∧o≤24) (hsum:L.sum+o=(ts.countP (Si n u):Int)):
  A7 (fun y:Int×Int×List ByteArray=>gL n ts u false L Em G (G.length:Int) y.1 y.2.1 y.2.2) n (o,(0),N)=some true:=by
 have hw:=Ahs hn h hd hN hp hL hb
 have hgl:=Ya h
 refine Hr (fun y=>∃j:Nat,y=(o+((F8 (G.take j)).map (wt N L)).sum,(j:Int),N)∧j≤G.length) _ (fun y=>G.length-y.2.1.toNat) (fun y ⟨j,hy,hj⟩=> ?_) n _ ⟨0,by simp [F8],by omega⟩ (by show G.length-(0:Int).toNat<n;omega)
 subst hy
 dsimp only
 unfold gL
 have hsub:(F8 (G.take j)).length≤12:=by
  have e:F8 G=F8 (G.take j)++F8 (G.drop j):=by
   unfold F8
   rw [← List.flatMap_append,List.take_append_drop]
  have h2:(F8 G).length≤12:=h.all
  rw [e,List.length_append] at h2
  omega
 have hsb:=jF (wt N L) hw (F8 (G.take j))
 rcases Nat.lt_or_ge j G.length with hlt|hge
 ·left
  have hx:G[j]?=some G[j]:=List.getElem?_eq_getElem hlt
  have hgm:=List.getElem_mem hlt
  generalize G[j]=g at hx hgm
  rw [decide_eq_true (show (j:Int)<_ by omega),cond_true,Bv hx,Option.bind_some]
  rw [pN hn h hd hN hp hL hb hgm ts u Em (G.length:Int) _ (by omega) j (by omega)]
  refine ⟨_,rfl,⟨j+1,?_,hlt⟩,by show G.length-((j+1:Nat):Int).toNat<G.length-(j:Int).toNat;omega⟩
  have e:F8 (G.take (j+1))=F8 (G.take j)++g.Ak:=by
   rw [take_one hx]
   unfold F8
   rw [List.flatMap_append]
   simp
  rw [e,List.map_append,List.sum_append]
  congr 1
  omega
 ·right
  have hj':j=G.length:=by omega
  subst hj'
  have hs:((F8 G).map (wt N L)).sum=L.sum:=by
   have:=tX (hp.map (wt N L))
   rw [this,Ais hd hL]
  have hlen:cQ N=some ():=by unfold cQ;rw [if_pos (by omega)]
  rw [decide_eq_false (Int.lt_irrefl _),cond_false,j8 n (by omega) h,Option.bind_some,hlen,Option.bind_some,List.take_length,hs,show o+L.sum=(ts.countP (Si n u):Int) by omega]
  dsimp only
  rw [uC hn h hd hN hp hL hb ts hts hok u]
  rfl
end
theorem yQ (n:Nat) (hn:4500<n) (l:List Au) (ts:List (List Ad)) (u:Int) (script:List Int):g3 n l ts u script=some true:=by
 unfold g3 g4
 rw [Option.bind_some,Bool.not_true,cond_false]
 obtain ⟨z1,hz1,hnm⟩:=rU n hn l
 rcases gD n hn l ts u with ⟨z,hz,e⟩|⟨hl,hts,hok,L,o,ec,eC⟩
 ·rw [e,Option.bind_some]
  dsimp only
  rw [bne_iff_ne.2 hz,cond_true]
 obtain ⟨L',o',ec',hLl,hLb,o0,o1,hsum⟩:=Xm n hn l hl ts hts hok u
 rw [ec] at ec'
 cases ec'
 have hchk:z1=0:=by
  by_cases q:z1=0
  ·exact q
  ·exfalso
   unfold g5 g41 at eC
   rw [hz1,Option.bind_some,bne_iff_ne.2 q,cond_true,Option.bind_some,bne_iff_ne.2 q,cond_true] at eC
   cases eC
   exact q rfl
 obtain ⟨hv,hpw⟩:=hnm hchk
 rw [eC,Option.bind_some]
 dsimp only
 rw [show ((0:Int) !=0)=false from rfl,cond_false]
 by_cases h60:(script.length:Int)>60
 ·rw [decide_eq_true h60,cond_true]
 rw [decide_eq_false h60,cond_false]
 by_cases h0:(l.length:Int)=0
 ·rw [beq_iff_eq.2 h0,cond_true]
 rw [beq_eq_false_iff_ne.2 h0,cond_false]
 have hlen:=hl.len
 obtain ⟨N,eN⟩:∃N,N=l.map (·.Name):=⟨_,rfl⟩
 have hNl:N.length=l.length:=by rw [eN,List.length_map]
 have hNv:∀s∈N,Vn n s:=fun s hs=>by
  rw [eN] at hs
  obtain ⟨x,hx,rfl⟩:=List.mem_map.1 hs
  have:=hv x hx
  unfold aE at this
  unfold Vn
  obtain ⟨b,hb,hb2⟩:=Option.bind_eq_some_iff.1 this
  cases hb2
  exact hb
 have hNd:N.Nodup:=by
  rw [eN,List.Nodup,List.pairwise_map]
  exact hpw.imp fun hne e=>hne (by rw [e])
 obtain ⟨G0,eG,hG0,hp0⟩:=tD n N (by omega) (by omega) hNv hNd
 refine Hr (fun y=>∃i:Nat,y=((i:Int),(l.take i).map (·.Name))∧i≤l.length) true (fun y=>l.length-y.1.toNat) (fun y ⟨i,hy,hi⟩=> ?_) n _ ⟨0,rfl,by omega⟩ (by show l.length-(0:Int).toNat<n;omega)
 subst hy
 dsimp only
 unfold qW
 rcases Nat.lt_or_ge i l.length with k|k
 ·left
  have hx:l[i]?=some l[i]:=List.getElem?_eq_getElem k
  generalize l[i]=x at hx
  have hll:((l.take i).map (·.Name)).length=i:=by rw [List.length_map,List.length_take];omega
  rw [decide_eq_true (show (i:Int)<_ by omega),cond_true,Bv hx,Option.bind_some,Hj (by rw [hll];simp only [List.length_cons,List.length_nil];omega) (by rw [hll];simp only [List.length_cons,List.length_nil];omega),Option.bind_some,wS (by omega)]
  exact ⟨_,rfl,⟨i+1,by rw [take_one hx,List.map_append];rfl,by omega⟩,by show l.length-((i+1:Nat):Int).toNat<l.length-(i:Int).toNat;omega⟩
 ·right
  have hi':i=l.length:=by omega
  subst hi'
  rw [decide_eq_false (Int.lt_irrefl _),cond_false,List.take_length,← eN,eG,Option.bind_some]
  dsimp only
  rw [show ((0:Int) !=0)=false from rfl,cond_false,show ((L.length:Int) !=(l.length:Int))=false by rw [hLl];exact bne_self_eq_false _,cond_false]
  have main:A7 (fun y:List Ab×Int×List ByteArray=>gS n ts u false L o 0 script (script.length:Int) y.1 y.2.1 y.2.2) n (G0,(0),N)=some true:=by
   refine Hr (fun y=>∃(G:List Ab) (i:Nat),y=(G,(i:Int),N)∧i≤script.length∧Gd (Vn n) G∧(F8 G).Perm N) true (fun y=>script.length-y.2.1.toNat) (fun y ⟨G,i,hy,hi,hG,hp⟩=> ?_) n _ ⟨G0,0,rfl,by omega,hG0,hp0⟩ (by show script.length-(0:Int).toNat<n;omega)
   subst hy
   dsimp only
   unfold gS
   rcases Nat.lt_or_ge i script.length with k|k
   ·left
    have hx:script[i]?=some script[i]:=List.getElem?_eq_getElem k
    generalize script[i]=x at hx
    have hgl:=Ya hG
    have hgne:G≠[]:=by
     rintro rfl
     have:=hp.length_eq
     rw [hNl] at this
     exact h0 (by rw [← this];rfl)
    have hg0:0<G.length:=List.length_pos_iff.2 hgne
    have hms:script.length-((i+1:Nat):Int).toNat<script.length-(i:Int).toNat:=by omega
    obtain ⟨a,ea,a0,a1⟩:=Uf n x (G.length:Int) (by omega)
    obtain ⟨b,eb,b0,b1⟩:=Uf n (IntKind.wrap .i64 (Int.tdiv x (20))) (G.length:Int) (by omega)
    obtain ⟨p,ep,-,-⟩:=Uf n (IntKind.wrap .i64 (Int.tdiv x (7))) 2 (by decide)
    obtain ⟨a',rfl⟩:∃a':Nat,a=(a':Int):=⟨a.toNat,by omega⟩
    obtain ⟨b',rfl⟩:∃b':Nat,b=(b':Int):=⟨b.toNat,by omega⟩
    have hA:G[a']?=some G[a']:=List.getElem?_eq_getElem (by omega)
    have hB:G[b']?=some G[b']:=List.getElem?_eq_getElem (by omega)
    generalize G[a']=A at hA
    generalize G[b']=B at hB
    have hAn:=(hG.V1 A (List.mem_of_getElem? hA)).2.1
    have hA0:¬(A.Ak.length:Int)=0:=by
     have:=List.length_pos_iff.2 hAn
     omega
    obtain ⟨R1,z1,e1,k1,-⟩:=vV n (by omega) hG A.Position B.Position
    obtain ⟨us,eu⟩:=jE n (by omega) G (by omega) N (by omega) (by omega)
    have hsl:Lb A.Ak none (some 1)=some (A.Ak.take 1):=O4 A.Ak 1 (by omega)
    obtain ⟨R2,z2,e2,k2,-⟩:=tF n (by omega) hG A.Position us (A.Ak.take 1) (by rw [List.length_take];omega) (by rw [List.length_take];omega)
    have stay:∃(G':List Ab) (i':Nat),(G,((i+1:Nat):Int),N)=(G',(i':Int),N)∧i'≤script.length∧Gd (Vn n) G'∧(F8 G').Perm N:=⟨G,i+1,rfl,k,hG,hp⟩
    rw [decide_eq_true (show (i:Int)<_ by omega),cond_true,Bv hx,Option.bind_some,beq_eq_false_iff_ne.2 (show ¬(G.length:Int)=0 by omega),cond_false,ea,Option.bind_some,Bv hA,Option.bind_some,eb,Option.bind_some,Bv hB,Option.bind_some,beq_eq_false_iff_ne.2 hA0,cond_false,e1,Option.bind_some,ep,Option.bind_some,wS (by omega)]
    cases hp0:(p==0)
    ·rw [cond_false]
     dsimp only
     by_cases q:z1=0
     ·rw [beq_iff_eq.2 q,cond_true]
      obtain ⟨x',y',z',hC,-,-⟩:=k1 q
      exact ⟨_,rfl,⟨R1,i+1,rfl,k,hC.Td hG,hC.flat.trans hp⟩,hms⟩
     ·rw [beq_eq_false_iff_ne.2 q,cond_false]
      exact ⟨_,rfl,stay,hms⟩
    ·rw [cond_true,eu,Option.bind_some,hsl,Option.bind_some,e2,Option.bind_some]
     dsimp only
     by_cases q:z2=0
     ·rw [beq_iff_eq.2 q,cond_true]
      obtain ⟨x',u',v',hS,-,hv1,hv2⟩:=k2 q
      exact ⟨_,rfl,⟨R2,i+1,rfl,k,hS.Td hG (by rw [hv1];exact hv2),hS.flat.trans hp⟩,hms⟩
     ·rw [beq_eq_false_iff_ne.2 q,cond_false]
      exact ⟨_,rfl,stay,hms⟩
   ·right
    have hi':i=script.length:=by omega
    subst hi'
    rw [decide_eq_false (Int.lt_irrefl _),cond_false,sW hn hG hNd (by omega) hp (by omega) hLb ts hts hok u 0 o ⟨o0,o1⟩ hsum]
    rfl
  rw [main]
  rfl
theorem kH (l:List Au) (t:List (List Ad)) (u:Int) (script:List Int):g3 300000 l t u script=some true:=yQ 300000 (by decide) l t u script
end Go.Proofs.YtmechmjjcgdpdaaGreatDoor
