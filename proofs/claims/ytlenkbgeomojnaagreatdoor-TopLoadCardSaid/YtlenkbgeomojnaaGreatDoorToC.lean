/- Parts ScD, To2, To3, To4. -/
import Derived.Test.YtlenkbgeomojnaaGreatDoorToB
import Derived.Test.YtlenkbgeomojnaaGreatDoorTab9
import Derived.Test.YtlenkbgeomojnaaGreatDoorTo1
set_option linter.unusedVariables false
set_option linter.unusedSimpArgs false
namespace Go.Proofs.YtlenkbgeomojnaaGreatDoor
/- the sector of a flight at a time -/
def plc (n:Nat) (l:List TSector) (u:Int) (t:List TTubeNode):Option Int:=match g71 n t u with
 |some r=>if r.2=0 then g112 n l (⟨r.1.Node_At_X,r.1.Node_At_Y⟩:TP) r.1.Node_Height else none
 |none=>none
def ccs (n:Nat) (l:List TSector) (u:Int) (ts:List (List TTubeNode)) (s:Nat):Int:=(ts.countP (fun t=>plc n l u t==some (s:Int)):Nat)
def cco (n:Nat) (l:List TSector) (u:Int) (ts:List (List TTubeNode)):Int:=(ts.countP (fun t=>(plc n l u t).any (fun z=>decide (z<0))):Nat)
theorem ccs_app (n:Nat) (l:List TSector) (u:Int) (a b:List (List TTubeNode)) (s:Nat):ccs n l u (a++b) s=ccs n l u a s+ccs n l u b s:=by unfold ccs;rw [List.countP_append];omega
theorem cco_app (n:Nat) (l:List TSector) (u:Int) (a b:List (List TTubeNode)):cco n l u (a++b)=cco n l u a+cco n l u b:=by unfold cco;rw [List.countP_append];omega
theorem ccs_le (n:Nat) (l:List TSector) (u:Int) (a:List (List TTubeNode)) (s:Nat):0≤ccs n l u a s∧ccs n l u a s≤(a.length:Int):=by
 unfold ccs
 have:=List.countP_le_length (p:=fun t=>plc n l u t==some (s:Int)) (l:=a)
 omega
theorem cco_le (n:Nat) (l:List TSector) (u:Int) (a:List (List TTubeNode)):0≤cco n l u a∧cco n l u a≤(a.length:Int):=by
 unfold cco
 have:=List.countP_le_length (p:=fun t=>(plc n l u t).any (fun z=>decide (z<0))) (l:=a)
 omega
theorem ccs_one (n:Nat) (l:List TSector) (u:Int) (t:List TTubeNode) (s:Nat):ccs n l u [t] s=if plc n l u t=some (s:Int) then 1 else 0:=by
 unfold ccs
 by_cases h:plc n l u t=some (s:Int)<;>simp [h]
theorem cco_one (n:Nat) (l:List TSector) (u:Int) (t:List TTubeNode):cco n l u [t]=if (plc n l u t).any (fun z=>decide (z<0))=true then 1 else 0:=by
 unfold cco
 by_cases h:(plc n l u t).any (fun z=>decide (z<0))=true<;>simp [h]
theorem rep_tab (m:Nat):List.replicate m (0:Int)=tab m (fun _=>0):=by
 unfold tab
 apply List.ext_getElem?
 intro s
 by_cases h:s<m
 ·simp [h]
 ·rw [List.getElem?_eq_none (by simp;omega),List.getElem?_eq_none (by simp;omega)]
theorem count_full (n:Nat) (hn:4500<n) (l:List TSector) (hl:SecOk l) (ts:List (List TTubeNode)) (hts:ts.length≤24) (hok:∀t∈ts,g36 n t=some 0∧TubeOk t) (u:Int):
  g40 n l ts u=some (tab l.length (ccs n l u ts),cco n l u ts):=by
 have hlen:=hl.len
 unfold g40
 have hm:makeO (l.length:Int) 8=some l.length:=by
  unfold makeO
  rw [if_pos ⟨by omega,by omega,by omega⟩];simp
 rw [hm,Option.bind_some,rep_tab]
 refine iterO_eq (S:=fun y:Int×Int×List Int=>S40_0 n l u (0) ts (ts.length:Int) y.1 y.2.1 y.2.2) (fun y=>∃i:Nat,i≤ts.length∧y=(cco n l u (ts.take i),(i:Int),tab l.length (ccs n l u (ts.take i)))) _ (fun y=>ts.length-y.2.1.toNat) ?_ n _ ⟨0,Nat.zero_le _,rfl⟩ (by show ts.length-(0:Int).toNat<n;omega)
 rintro _ ⟨i,hi,rfl⟩
 show (∃y,S40_0 n l u (0) ts (ts.length:Int) (cco n l u (ts.take i)) (i:Int) (tab l.length (ccs n l u (ts.take i)))=some (.inl y)∧_∧_)∨S40_0 n l u (0) ts (ts.length:Int) (cco n l u (ts.take i)) (i:Int) (tab l.length (ccs n l u (ts.take i)))=some (.inr _)
 unfold S40_0
 rcases Nat.lt_or_ge i ts.length with hlt|hge
 ·left
  have hx:ts[i]?=some ts[i]:=List.getElem?_eq_getElem hlt
  generalize ts[i]=t at hx
  obtain ⟨hc,htk⟩:=hok t (List.mem_of_getElem? hx)
  have hms:ts.length-((i+1:Nat):Int).toNat<ts.length-(i:Int).toNat:=by omega
  have htl:(ts.take i).length≤24:=by rw [List.length_take];omega
  rw [decide_eq_true (show (i:Int)<_ by omega),cond_true,getI_at hx,Option.bind_some,wS (by omega)]
  rcases At_either n (by omega) t hc htk u with ⟨q,hq⟩|hq
  ·obtain ⟨k,hk,k1,k2⟩:=place_val n hn l hl (⟨q.Node_At_X,q.Node_At_Y⟩:TP) q.Node_Height
   have hp:plc n l u t=some k:=by unfold plc;rw [hq];simp only [if_true];exact hk
   rw [hq,Option.bind_some]
   simp only [show ((0:Int) !=0)=false from rfl,cond_false]
   rw [hk,Option.bind_some]
   by_cases hk0:k≥0
   ·obtain ⟨k',rfl⟩:∃k':Nat,k=(k':Int):=⟨k.toNat,by omega⟩
    have hkl:k'<l.length:=by omega
    have hb:=ccs_le n l u (ts.take i) k'
    rw [decide_eq_true hk0,cond_true,getI_at (tab_at hkl),Option.bind_some,Option.bind_some,Int.toNat_natCast,wrap64 (by omega) (by omega),tab_set _ _ (ccs n l u (ts.take (i+1))) _ _ (fun s=>by
     rw [take_one hx,ccs_app,ccs_one,hp]
     by_cases e:s=k'
     ·subst e;rw [if_pos rfl,if_pos rfl]
     ·rw [if_neg (by simp only [Option.some.injEq];omega),if_neg e];omega)]
    refine ⟨_,rfl,⟨i+1,hlt,?_⟩,hms⟩
    rw [show cco n l u (ts.take (i+1))=cco n l u (ts.take i) by
     rw [take_one hx,cco_app,cco_one,hp,if_neg (by simp)];omega]
   ·have hb:=cco_le n l u (ts.take i)
    rw [decide_eq_false hk0,cond_false,wrap64 (by omega) (by omega)]
    refine ⟨_,rfl,⟨i+1,hlt,?_⟩,hms⟩
    rw [show cco n l u (ts.take (i+1))=cco n l u (ts.take i)+1 by
     rw [take_one hx,cco_app,cco_one,hp,if_pos (by simp;omega)]]
    rw [show ccs n l u (ts.take (i+1))=ccs n l u (ts.take i) by
     funext s
     rw [take_one hx,ccs_app,ccs_one,hp,if_neg (by simp only [Option.some.injEq];omega)];omega]
  ·have hp:plc n l u t=none:=by unfold plc;rw [hq];simp
   rw [hq,Option.bind_some]
   simp only [show ((12:Int) !=0)=true from rfl,cond_true]
   refine ⟨_,rfl,⟨i+1,hlt,?_⟩,hms⟩
   rw [show cco n l u (ts.take (i+1))=cco n l u (ts.take i) by
    rw [take_one hx,cco_app,cco_one,hp,if_neg (by simp)];omega]
   rw [show ccs n l u (ts.take (i+1))=ccs n l u (ts.take i) by
    funext s
    rw [take_one hx,ccs_app,ccs_one,hp,if_neg (by simp)];omega]
 ·right
  have hi':i=ts.length:=by omega
  subst hi'
  rw [decide_eq_false (Int.lt_irrefl _),cond_false,List.take_length]
end Go.Proofs.YtlenkbgeomojnaaGreatDoor
set_option linter.unusedVariables false
set_option linter.unusedSimpArgs false
namespace Go.Proofs.YtlenkbgeomojnaaGreatDoor
theorem rep_tabv (m:Nat) (v:Int):List.replicate m v=tab m (fun _=>v):=by
 unfold tab
 apply List.ext_getElem?
 intro s
 by_cases h:s<m
 ·simp [h]
 ·rw [List.getElem?_eq_none (by simp;omega),List.getElem?_eq_none (by simp;omega)]
theorem span_cases (n:Nat) (s:TSpan):(g38 n s=some 0∧0≤s.From∧s.From<s.To∧s.To≤200001∧s.To-s.From≤2000)∨∃z,z≠0∧g38 n s=some z:=by
 unfold g38
 by_cases h1:s.From<0
 ·rw [decide_eq_true h1,cond_true];exact .inr ⟨12,by decide,rfl⟩
 rw [decide_eq_false h1,cond_false]
 by_cases h2:s.To>200001
 ·rw [decide_eq_true h2,cond_true];exact .inr ⟨12,by decide,rfl⟩
 rw [decide_eq_false h2,cond_false]
 by_cases h3:s.From≥s.To
 ·rw [decide_eq_true h3,cond_true];exact .inr ⟨12,by decide,rfl⟩
 rw [decide_eq_false h3,cond_false,wrap64 (by omega) (by omega)]
 by_cases h4:s.To-s.From>2000
 ·rw [decide_eq_true h4,cond_true];exact .inr ⟨2,by decide,rfl⟩
 rw [decide_eq_false h4,cond_false]
 exact .inl ⟨rfl,by omega,by omega,by omega,by omega⟩
theorem pk_inner (n:Nat) (hn:64<n) (l:List TSector) (ts:List (List TTubeNode)) (c8 F To:Int) (m:Nat) (hm:m≤12) (c:Int→Nat→Int) (t:Int) (s:(Nat→Int)×(Nat→Int)):
  iterO (fun y:Int×List Int×List Int=>S6_0_0 n l ts c8 t (tab m (c t)) (m:Int) F To y.1 y.2.1 y.2.2) n ((0),tab m s.1,tab m s.2)=some (.inl (IntKind.wrap .i64 (t+1),tab m (pkU c t m s).1,tab m (pkU c t m s).2)):=by
 refine iter_seq m (fun w=>(tab m (pkU c t w s).1,tab m (pkU c t w s).2)) _ ?_ ?_ n (by omega) _ (by rw [pkU_zero])
 ·intro w hw
  show S6_0_0 n l ts c8 t (tab m (c t)) (m:Int) F To (w:Int) (tab m (pkU c t w s).1) (tab m (pkU c t w s).2)=_
  unfold S6_0_0
  have e1:(pkU c t w s).1 w=s.1 w:=by unfold pkU;simp
  rw [decide_eq_true (show (w:Int)<_ by omega),cond_true,getI_at (tab_at hw),Option.bind_some,getI_at (tab_at hw),Option.bind_some,Option.bind_some,Option.bind_some,getI_at (tab_at hw),Option.bind_some,e1,wS (by omega),Int.toNat_natCast]
  by_cases h:c t w>s.1 w
  ·rw [decide_eq_true h,cond_true,tab_set _ _ (pkU c t (w+1) s).1 _ _ (fun i=> ?_),tab_set _ _ (pkU c t (w+1) s).2 _ _ (fun i=> ?_)]
   ·unfold pkU
    simp only
    by_cases e:i=w
    ·subst e;rw [if_pos rfl,if_pos ⟨by omega,h⟩]
    ·rw [if_neg e]
     by_cases q:i<w∧c t i>s.1 i
     ·rw [if_pos q,if_pos ⟨by omega,q.2⟩]
     ·rw [if_neg q,if_neg (fun k=>q ⟨by omega,k.2⟩)]
   ·unfold pkU
    simp only
    by_cases e:i=w
    ·subst e;rw [if_pos rfl,if_pos ⟨by omega,h⟩]
    ·rw [if_neg e]
     by_cases q:i<w∧c t i>s.1 i
     ·rw [if_pos q,if_pos ⟨by omega,q.2⟩]
     ·rw [if_neg q,if_neg (fun k=>q ⟨by omega,k.2⟩)]
  ·rw [decide_eq_false h,cond_false]
   have e2:pkU c t (w+1) s=pkU c t w s:=by
    have key:∀i,(i<w+1∧c t i>s.1 i)↔(i<w∧c t i>s.1 i):=fun i=>by
     constructor
     ·rintro ⟨k1,k2⟩
      refine ⟨?_,k2⟩
      by_cases e:i=w
      ·subst e;exact absurd k2 h
      ·omega
     ·rintro ⟨k1,k2⟩;exact ⟨by omega,k2⟩
    unfold pkU
    simp only [key]
   rw [e2]
 ·show S6_0_0 n l ts c8 t (tab m (c t)) (m:Int) F To (m:Int) _ _=_
  unfold S6_0_0
  rw [decide_eq_false (Int.lt_irrefl _),cond_false]
theorem peaks_cases (n:Nat) (hn:30000<n) (l:List TSector) (ts:List (List TTubeNode)) (s:TSpan):(∃z,z≠0∧g6 n l ts s=some ([],[],z)∧(g37 n l ts≠some 0∨g38 n s≠some 0))∨(g37 n l ts=some 0∧g38 n s=some 0∧SecOk l∧ts.length≤24∧(∀t∈ts,g36 n t=some 0∧TubeOk t)∧(0≤s.From∧s.From<s.To∧s.To≤200001∧s.To-s.From≤2000)∧
  g6 n l ts s=some (tab l.length (pk (fun t i=>ccs n l t ts i) l.length s.From (s.To-s.From).toNat).1,tab l.length (pk (fun t i=>ccs n l t ts i) l.length s.From (s.To-s.From).toNat).2,0)):=by
 obtain ⟨z,hz,kz⟩:=load_check n (by omega) l ts
 unfold g6
 rw [hz,Option.bind_some]
 by_cases z0:z=0
 case neg=>rw [bne_iff_ne.2 z0,cond_true];exact .inl ⟨z,z0,rfl,.inl (fun h=>z0 (Option.some.inj h))⟩
 obtain ⟨hl,hts,hok⟩:=kz z0
 have hlen:=hl.len
 rw [z0,show ((0:Int) !=0)=false from rfl,cond_false]
 rcases span_cases n s with ⟨hs,h1,h2,h3,h4⟩|⟨y,hy,hs⟩
 case inr=>rw [hs,Option.bind_some,bne_iff_ne.2 hy,cond_true];exact .inl ⟨y,hy,rfl,.inr (fun h=>hy (Option.some.inj h))⟩
 rw [hs,Option.bind_some,show ((0:Int) !=0)=false from rfl,cond_false]
 refine .inr ⟨rfl,rfl,hl,hts,hok,⟨h1,h2,h3,h4⟩,?_⟩
 have hm:makeO (l.length:Int) 8=some l.length:=by
  unfold makeO
  rw [if_pos ⟨by omega,by omega,by omega⟩];simp
 have hr:repO ([s.From]:List Int) (l.length:Int)=some (List.replicate l.length s.From):=by
  unfold repO
  simp only
  rw [if_pos ⟨by omega,by omega⟩,Int.toNat_natCast]
 rw [hm,Option.bind_some,hr,Option.bind_some,rep_tabv,rep_tabv]
 refine iter_off s.From (s.To-s.From).toNat (fun k=>(tab l.length (pk (fun t i=>ccs n l t ts i) l.length s.From k).1,tab l.length (pk (fun t i=>ccs n l t ts i) l.length s.From k).2)) _ ?_ ?_ n (by omega) _ rfl
 ·intro k hk
  show S6_0 n l ts (0) s.From s.To (s.From+(k:Int)) (tab l.length (pk (fun t i=>ccs n l t ts i) l.length s.From k).1) (tab l.length (pk (fun t i=>ccs n l t ts i) l.length s.From k).2)=_
  unfold S6_0
  rw [decide_eq_true (show s.From+(k:Int)<s.To by omega),cond_true,count_full n (by omega) l hl ts hts hok,Option.bind_some]
  simp only [tab_len]
  rw [pk_inner n (by omega) l ts 0 s.From s.To l.length (by omega) (fun t i=>ccs n l t ts i) (s.From+(k:Int)),wrap64 (by omega) (by omega),show s.From+(k:Int)+1=s.From+((k+1:Nat):Int) by omega]
  rfl
 ·show S6_0 n l ts (0) s.From s.To (s.From+((s.To-s.From).toNat:Int)) _ _=_
  unfold S6_0
  rw [decide_eq_false (show ¬s.From+((s.To-s.From).toNat:Int)<s.To by omega),cond_false]
theorem span_ok (n:Nat) (s:TSpan) (h0:0≤s.From) (h1:s.From<s.To) (h2:s.To≤200001) (h3:s.To-s.From≤2000):g38 n s=some 0:=by
 unfold g38
 rw [decide_eq_false (show ¬s.From<0 by omega),cond_false,decide_eq_false (show ¬s.To>200001 by omega),cond_false,decide_eq_false (show ¬s.From≥s.To by omega),cond_false,wrap64 (by omega) (by omega),decide_eq_false (show ¬s.To-s.From>2000 by omega),cond_false]
/- load.check = 0: the sectors pass -/
theorem check_sec (n:Nat) (hn:4500<n) (l:List TSector) (ts:List (List TTubeNode)) (h:g37 n l ts=some 0):g110 n l=some 0:=by
 obtain ⟨z,hz,-⟩:=sec_check n hn l
 unfold g37 at h
 rw [hz,Option.bind_some] at h
 by_cases z0:z=0
 ·rw [hz,z0]
 ·rw [bne_iff_ne.2 z0,cond_true] at h
  exact absurd (Option.some.inj h) z0
theorem check_of (n:Nat) (hn:64<n) (l:List TSector) (ts:List (List TTubeNode)) (hs:g110 n l=some 0) (hl:ts.length≤24) (hc:∀t∈ts,g36 n t=some 0):g37 n l ts=some 0:=by
 unfold g37
 rw [hs,Option.bind_some,show ((0:Int) !=0)=false from rfl,cond_false,decide_eq_false (show ¬(ts.length:Int)>24 by omega),cond_false]
 obtain ⟨r,hr,hq⟩:=iter_each (S:=fun y:Int=>S37_0 n (0) ts (ts.length:Int) y) ts (fun _ _=>True) (fun _=>False) 0 (fun i t ht=>by
  have:=some_lt ht
  refine .inl ⟨?_,trivial⟩
  show S37_0 n (0) ts (ts.length:Int) (i:Int)=_
  unfold S37_0
  rw [decide_eq_true (show (i:Int)<_ by omega),cond_true,getI_at ht,Option.bind_some,wS (by omega),hc t (List.mem_of_getElem? ht),Option.bind_some]
  rfl) (by
  show S37_0 n (0) ts (ts.length:Int) (ts.length:Int)=_
  unfold S37_0
  rw [decide_eq_false (Int.lt_irrefl _)];rfl) n (by omega)
 rcases hq with k|⟨rfl,-⟩
 ·exact k.elim
 ·exact hr
end Go.Proofs.YtlenkbgeomojnaaGreatDoor
set_option linter.unusedVariables false
set_option linter.unusedSimpArgs false
namespace Go.Proofs.YtlenkbgeomojnaaGreatDoor
def shT (d:Int) (x:TTubeNode):TTubeNode:=⟨x.Node_Time+d,x.Node_At_X,x.Node_At_Y,x.Node_Height,x.Radius,x.Band⟩
theorem shift_cases (n:Nat) (hn:100<n) (t:List TTubeNode) (d:Int):(∃r,g8 n t (⟨0,0⟩:TP) d=some r∧r.2≠0)∨
  (TubeOk t∧g36 n t=some 0∧-200000≤d∧d≤200000∧TubeOk (t.map (shT d))∧g36 n (t.map (shT d))=some 0∧g8 n t (⟨0,0⟩:TP) d=some (t.map (shT d),0)):=by
 unfold g8
 rcases check_tot n (by omega) t with ⟨hc,ht⟩|⟨y,hy,hc⟩
 case inr=>rw [hc,Option.bind_some,bne_iff_ne.2 hy,cond_true];exact .inl ⟨_,rfl,hy⟩
 rw [hc,Option.bind_some,show ((0:Int) !=0)=false from rfl,cond_false]
 simp only [show decide ((0:Int)< -2000000)=false from rfl,show decide ((0:Int)>2000000)=false from rfl,cond_false]
 by_cases d0:d< -200000
 ·rw [decide_eq_true d0,cond_true];exact .inl ⟨_,rfl,by decide⟩
 by_cases d1:d>200000
 ·rw [decide_eq_false d0,cond_false,decide_eq_true d1,cond_true];exact .inl ⟨_,rfl,by decide⟩
 have hl:=ht.len
 rw [decide_eq_false d0,decide_eq_false d1,cond_false,cond_false,room_of (by omega) (by omega),Option.bind_some]
 have hend:∀r,iterO (fun y:Int×List TTubeNode=>S8_0 n d (0) (t.length:Int) (0) (0) y.1 y.2) n ((0),t)=some r→_:=fun r h=>h
 obtain ⟨r,hr,hQ⟩:=iterO_rule (S:=fun y:Int×List TTubeNode=>S8_0 n d (0) (t.length:Int) (0) (0) y.1 y.2) (fun y=>∃i:Nat,i≤t.length∧y=((i:Int),(t.take i).map (shT d)++t.drop i)) (fun r=>r.2≠0∨(TubeOk (t.map (shT d))∧g36 n (t.map (shT d))=some 0∧r=(t.map (shT d),0))) (fun y=>t.length-y.1.toNat) (by
  rintro _ ⟨i,hi,rfl⟩
  show (∃y,S8_0 n d (0) (t.length:Int) (0) (0) (i:Int) ((t.take i).map (shT d)++t.drop i)=some (.inl y)∧_∧_)∨∃r,S8_0 n d (0) (t.length:Int) (0) (0) (i:Int) ((t.take i).map (shT d)++t.drop i)=some (.inr r)∧_
  unfold S8_0
  rcases Nat.lt_or_ge i t.length with hlt|hge
  ·left
   have hx:t[i]?=some t[i]:=List.getElem?_eq_getElem hlt
   have hdr:=List.drop_eq_getElem_cons hlt
   have hlm:((t.take i).map (shT d)).length=i:=by rw [List.length_map,List.length_take];omega
   generalize t[i]=x at hx hdr
   obtain ⟨b1,b2,hpo,-⟩:=ht.nodes x (List.mem_of_getElem? hx)
   have b3: -1000000≤x.Node_At_X∧x.Node_At_X≤1000000∧-1000000≤x.Node_At_Y∧x.Node_At_Y≤1000000:=hpo
   rw [hdr]
   have hg:((t.take i).map (shT d)++x::t.drop (i+1))[i]?=some x:=by
    rw [List.getElem?_append_right (by omega),hlm,Nat.sub_self];rfl
   have hlen:i<((t.take i).map (shT d)++x::t.drop (i+1)).length:=some_lt hg
   rw [decide_eq_true (show (i:Int)<_ by omega),cond_true,getI_at hg,Option.bind_some]
   unfold g42
   simp only [Option.bind_some,Int.toNat_natCast,Int.add_zero]
   rw [getI_set hlen,Option.bind_some,Option.bind_some,List.set_set,wS (by omega),wrap64 (z:=x.Node_Time+d) (by omega) (by omega),wrap64 (z:=x.Node_At_X) (by omega) (by omega),wrap64 (z:=x.Node_At_Y) (by omega) (by omega)]
   refine ⟨_,rfl,⟨i+1,hlt,?_⟩,by show t.length-((i+1:Nat):Int).toNat<t.length-(i:Int).toNat;omega⟩
   congr 1
   rw [List.set_append_right _ _ (by omega),hlm,Nat.sub_self,List.set_cons_zero]
   have:t.take (i+1)=t.take i++[x]:=by rw [List.take_add_one,hx];rfl
   rw [this,List.map_append]
   simp [shT]
  ·right
   have hi':i=t.length:=by omega
   subst hi'
   rw [decide_eq_false (Int.lt_irrefl _),cond_false,List.take_length,List.drop_length,List.append_nil]
   rcases check_tot n (by omega) (t.map (shT d)) with ⟨hc2,ht2⟩|⟨y,hy,hc2⟩
   ·rw [hc2]
    exact ⟨_,rfl,.inr ⟨ht2,by trivial,rfl⟩⟩
   ·rw [hc2,Option.bind_some,bne_iff_ne.2 hy,cond_true]
    exact ⟨_,rfl,.inl hy⟩) n ((0),t) ⟨0,Nat.zero_le _,rfl⟩ (by show t.length-(0:Int).toNat<n;omega)
 rcases hQ with k|⟨k1,k2,rfl⟩
 ·exact .inl ⟨r,hr,k⟩
 ·exact .inr ⟨ht,by trivial,by omega,by omega,k1,k2,hr⟩
theorem getI_map {α β:Type} (f:α→β) (l:List α) (i:Int):getI (l.map f) i=(getI l i).map f:=by
 unfold getI
 split
 ·rw [List.getElem?_map]
 ·rfl
/- the node at a later time -/
theorem at_shift (n:Nat) (t:List TTubeNode) (u d:Int):g138 n (t.map (shT d)) (u+d)=(g138 n t u).map (shT d):=by
 have hs:g204 n (t.map (shT d)) (u+d)=g204 n t u:=by
  unfold g204
  rw [List.length_map]
  congr 1
  funext y
  unfold S204_0
  simp only [getI_map]
  have hc:∀x,g205 n (shT d x) (u+d)=g205 n x u:=fun x=>by
   unfold g205 shT
   simp only
   congr 2
   omega
  have hb:∀{γ:Type} (o:Option TTubeNode) (f:Int→Option γ),((o.map (shT d)).bind fun x=>(g205 n x (u+d)).bind f)=o.bind fun x=>(g205 n x u).bind f:=fun o f=>by
   cases o with
   |none=>rfl
   |some x=>simp only [Option.map_some,Option.bind_some,hc]
  simp only [hb]
 unfold g138
 rw [hs]
 cases g204 n t u with
 |none=>rfl
 |some q=>
  simp only [Option.bind_some]
  cases q.2 with
  |true=>
   simp only [cond_true,getI_map]
   cases getI t q.1<;>rfl
  |false=>
   simp only [cond_false,getI_map]
   cases getI t (IntKind.wrap .i64 (q.1-1)) with
   |none=>rfl
   |some a=>
   cases getI t q.1 with
   |none=>rfl
   |some b=>
    simp only [Option.map_some,Option.bind_some]
    have e1:u+d-(shT d a).Node_Time=u-a.Node_Time:=by unfold shT;simp only;omega
    have e2:(shT d b).Node_Time-(shT d a).Node_Time=b.Node_Time-a.Node_Time:=by unfold shT;simp only;omega
    rw [e1,e2]
    show ((g206 n (⟨a.Node_At_X,a.Node_At_Y⟩:TP) (⟨b.Node_At_X,b.Node_At_Y⟩:TP) (IntKind.wrap .i64 (u-a.Node_Time)) (IntKind.wrap .i64 (b.Node_Time-a.Node_Time))).bind _)=_
    cases g206 n (⟨a.Node_At_X,a.Node_At_Y⟩:TP) (⟨b.Node_At_X,b.Node_At_Y⟩:TP) (IntKind.wrap .i64 (u-a.Node_Time)) (IntKind.wrap .i64 (b.Node_Time-a.Node_Time)) with
    |none=>rfl
    |some p1=>
    simp only [Option.bind_some]
    show ((g207 n (IntKind.wrap .i64 ((IntKind.wrap .i64 (b.Node_Height-a.Node_Height))*(IntKind.wrap .i64 (u-a.Node_Time)))) (IntKind.wrap .i64 (b.Node_Time-a.Node_Time))).bind _)=_
    cases g207 n (IntKind.wrap .i64 ((IntKind.wrap .i64 (b.Node_Height-a.Node_Height))*(IntKind.wrap .i64 (u-a.Node_Time)))) (IntKind.wrap .i64 (b.Node_Time-a.Node_Time)) with
    |none=>rfl
    |some p2=>
    simp only [Option.bind_some]
    show ((g208 n (IntKind.wrap .i64 ((IntKind.wrap .i64 (b.Radius-a.Radius))*(IntKind.wrap .i64 (u-a.Node_Time)))) (IntKind.wrap .i64 (b.Node_Time-a.Node_Time))).bind _)=_
    cases g208 n (IntKind.wrap .i64 ((IntKind.wrap .i64 (b.Radius-a.Radius))*(IntKind.wrap .i64 (u-a.Node_Time)))) (IntKind.wrap .i64 (b.Node_Time-a.Node_Time)) with
    |none=>rfl
    |some p3=>
    simp only [Option.bind_some]
    show ((g208 n (IntKind.wrap .i64 ((IntKind.wrap .i64 (b.Band-a.Band))*(IntKind.wrap .i64 (u-a.Node_Time)))) (IntKind.wrap .i64 (b.Node_Time-a.Node_Time))).bind _)=_
    cases g208 n (IntKind.wrap .i64 ((IntKind.wrap .i64 (b.Band-a.Band))*(IntKind.wrap .i64 (u-a.Node_Time)))) (IntKind.wrap .i64 (b.Node_Time-a.Node_Time)) with
    |none=>rfl
    |some p4=>rfl
theorem At_shift (n:Nat) (hn:100<n) (t:List TTubeNode) (d:Int) (ht:TubeOk t) (hc:g36 n t=some 0) (ht2:TubeOk (t.map (shT d))) (hc2:g36 n (t.map (shT d))=some 0) (u:Int):
  (∃r,g71 n t u=some (r,0)∧g71 n (t.map (shT d)) (u+d)=some (shT d r,0))∨(g71 n t u=some (zeroN,12)∧g71 n (t.map (shT d)) (u+d)=some (zeroN,12)):=by
 have hp:=ht.pos
 have h0:t[0]?=some t[0]:=List.getElem?_eq_getElem (by omega)
 have h1:t[t.length-1]?=some t[t.length-1]:=List.getElem?_eq_getElem (by omega)
 generalize t[0]=x0 at h0
 generalize t[t.length-1]=x1 at h1
 have g0:(t.map (shT d))[0]?=some (shT d x0):=by rw [List.getElem?_map,h0];rfl
 have g1:(t.map (shT d))[(t.map (shT d)).length-1]?=some (shT d x1):=by rw [List.length_map,List.getElem?_map,h1];rfl
 rcases At_cases n (by omega) t ht hc u x0 x1 h0 h1 with ⟨a1,a2,r,e1,e2⟩|⟨a,e⟩
 ·rcases At_cases n (by omega) _ ht2 hc2 (u+d) _ _ g0 g1 with ⟨b1,b2,r',e3,e4⟩|⟨b,-⟩
  ·rw [at_shift,e1,Option.map_some] at e3
   cases e3
   exact .inl ⟨r,e2,e4⟩
  ·exfalso
   unfold shT at b
   simp only at b
   omega
 ·rcases At_cases n (by omega) _ ht2 hc2 (u+d) _ _ g0 g1 with ⟨b1,b2,-⟩|⟨-,e4⟩
  ·exfalso
   unfold shT at b1 b2
   simp only at b1 b2
   omega
  ·exact .inr ⟨e,e4⟩
theorem plc_shift (n:Nat) (hn:100<n) (l:List TSector) (t:List TTubeNode) (d:Int) (ht:TubeOk t) (hc:g36 n t=some 0) (ht2:TubeOk (t.map (shT d))) (hc2:g36 n (t.map (shT d))=some 0) (u:Int):plc n l (u+d) (t.map (shT d))=plc n l u t:=by
 unfold plc
 rcases At_shift n hn t d ht hc ht2 hc2 u with ⟨r,e1,e2⟩|⟨e1,e2⟩
 ·rw [e1,e2]
  rfl
 ·rw [e1,e2]
theorem ccs_shift (n:Nat) (hn:100<n) (l:List TSector) (ts:List (List TTubeNode)) (d:Int) (h:∀t∈ts,TubeOk t∧g36 n t=some 0∧TubeOk (t.map (shT d))∧g36 n (t.map (shT d))=some 0) (u:Int) (i:Nat):ccs n l (u+d) (ts.map (List.map (shT d))) i=ccs n l u ts i:=by
 unfold ccs
 congr 1
 rw [List.countP_map]
 apply List.countP_congr
 intro t ht
 obtain ⟨h1,h2,h3,h4⟩:=h t ht
 show (plc n l (u+d) (t.map (shT d))==some (i:Int))=true↔_
 rw [plc_shift n hn l t d h1 h2 h3 h4]
end Go.Proofs.YtlenkbgeomojnaaGreatDoor
set_option linter.unusedVariables false
set_option linter.unusedSimpArgs false
set_option maxHeartbeats 2000000
set_option maxRecDepth 100000
namespace Go.Proofs.YtlenkbgeomojnaaGreatDoor
theorem pick_val (n:Nat) (a m:Int) (hm:0<m∧m≤1000):∃r:Int,g7 n a m=some r∧0≤r∧r<m:=by
 unfold g7
 have e:IntKind.wrap .u64 m=m:=by
  show m % (2 ^ 64:Int)=m
  omega
 have h0:0≤IntKind.wrap .u64 a:=by
  show 0≤a % (2 ^ 64:Int)
  omega
 rw [e]
 unfold modO
 rw [if_neg (by omega),Option.bind_some,Int.tmod_eq_emod_of_nonneg h0]
 have h1:=Int.emod_nonneg (IntKind.wrap .u64 a) (show m≠0 by omega)
 have h2:=Int.emod_lt_of_pos (IntKind.wrap .u64 a) (show 0<m by omega)
 rw [wrap64 (by omega) (by omega)]
 exact ⟨_,rfl,h1,h2⟩
theorem short_tot (n:Nat) (hn:64<n) (t:List TTubeNode) (w:Int):∃b,g35 n t w=some b:=by
 unfold g35
 rcases check_tot n hn t with ⟨e,ok⟩|⟨z,hz,e⟩
 ·have hp:=ok.pos
  have hl:=ok.len
  have h0:t[0]?=some t[0]:=List.getElem?_eq_getElem hp
  have h1:t[t.length-1]?=some t[t.length-1]:=List.getElem?_eq_getElem (by omega)
  rw [e,Option.bind_some,show ((0:Int) !=0)=false from rfl,cond_false,show IntKind.wrap .i64 ((t.length:Int)-1)=((t.length-1:Nat):Int) by rw [wrap64 (by omega) (by omega)];omega,getI_at h1,Option.bind_some,show getI t 0=some t[0] from getI_at (i:=0) h0,Option.bind_some]
  exact ⟨_,rfl⟩
 ·rw [e,Option.bind_some,bne_iff_ne.2 hz,cond_true]
  exact ⟨_,rfl⟩
theorem small_tot (n:Nat) (hn:64<n) (ts:List (List TTubeNode)) (w:Int):∃b,g5 n ts 5 w=some b:=by
 unfold g5
 by_cases h:(ts.length:Int)≤5
 ·rw [decide_eq_true h,cond_true]
  have e:∃i,g109 n ts w=some i:=by
   unfold g109
   refine iter_tot ts.length (fun i hi=> ?_) (fun i hi=> ?_) n 0 (by omega)
   ·have hx:ts[i]?=some ts[i]:=List.getElem?_eq_getElem hi
    generalize ts[i]=t at hx
    obtain ⟨b,hb⟩:=short_tot n hn t w
    show S109_0 n ts w (0) (ts.length:Int) (i:Int)=_∨∃r,S109_0 n ts w (0) (ts.length:Int) (i:Int)=_
    unfold S109_0
    rw [decide_eq_true (show (i:Int)<_ by omega),cond_true,getI_at hx,Option.bind_some,hb,Option.bind_some,wS (by omega)]
    cases b
    ·exact .inl rfl
    ·exact .inr ⟨_,rfl⟩
   ·show ∃r,S109_0 n ts w (0) (ts.length:Int) (i:Int)=_
    unfold S109_0
    rw [decide_eq_false (show ¬(i:Int)<_ by omega)]
    exact ⟨_,rfl⟩
  obtain ⟨i,hi⟩:=e
  unfold g34
  rw [hi]
  exact ⟨_,rfl⟩
 ·rw [decide_eq_false h]
  exact ⟨_,rfl⟩
theorem equalI (n:Nat) (hn:1000<n) (L:List Int) (hl:L.length≤100):g9 n L L=some true:=by
 unfold g9
 rw [bne_self_eq_false,cond_false]
 have:=equal_loop L L rfl (S:=fun y:Int=>S9_0 n L L false (L.length:Int) y) (fun i x y hx hy=>by
  have hi:=some_lt hx
  show S9_0 n L L false (L.length:Int) (i:Int)=_
  unfold S9_0
  have hxy:x=y:=by rw [hx] at hy;exact Option.some.inj hy
  subst hxy
  rw [decide_eq_true (show (i:Int)<(L.length:Int) by omega),getI_at hx,wS (by omega)]
  simp only [cond_true,Option.bind_some]
  simp) (by
  show S9_0 n L L false (L.length:Int) (L.length:Int)=_
  unfold S9_0
  rw [decide_eq_false (show ¬(L.length:Int)<(L.length:Int) by omega)];rfl) n (by omega)
 rw [this,decide_eq_true rfl]
theorem pk_bd (c:Int→Nat→Int) (m:Nat) (F:Int):∀(k i:Nat),F≤(pk c m F k).2 i∧(pk c m F k).2 i≤F+(k:Int)
 |0,i=>⟨Int.le_refl _,by show F≤F+((0:Nat):Int);omega⟩
 |k+1,i=>by
  have:=pk_bd c m F k i
  show F≤(pkU c (F+(k:Int)) m (pk c m F k)).2 i∧(pkU c (F+(k:Int)) m (pk c m F k)).2 i≤F+((k+1:Nat):Int)
  unfold pkU
  simp only
  split<;>omega
theorem later_loop (n:Nat) (hn:1000<n) (d:Int) (d0:0≤d) (d1:d<200) (m:Nat) (hm:m≤100) (f:Nat→Int) (hf:∀i,0≤f i∧f i≤300000):iterO (fun y:Int=>S3_1 n d false (tab m f) (tab m fun i=>f i+d) (m:Int) y) n (0)=some true:=by
 obtain ⟨r,hr,hq⟩:=iter_each (S:=fun y:Int=>S3_1 n d false (tab m f) (tab m fun i=>f i+d) (m:Int) y) (tab m f) (fun _ _=>True) (fun _=>False) true (fun i x hx=>by
  have hi:=some_lt hx
  rw [tab_len] at hi
  rw [tab_at hi] at hx
  cases hx
  have:=hf i
  refine .inl ⟨?_,trivial⟩
  show S3_1 n d false (tab m f) (tab m fun i=>f i+d) (m:Int) (i:Int)=_
  unfold S3_1
  rw [decide_eq_true (show (i:Int)<_ by omega),cond_true,getI_at (tab_at hi),Option.bind_some,getI_at (tab_at hi),Option.bind_some,wrap64 (z:=f i+d) (by omega) (by omega),bne_self_eq_false,cond_false,wS (by omega)]) (by
  rw [tab_len]
  show S3_1 n d false (tab m f) (tab m fun i=>f i+d) (m:Int) (m:Int)=_
  unfold S3_1
  rw [decide_eq_false (Int.lt_irrefl _)];rfl) n (by rw [tab_len];omega)
 rcases hq with k|⟨rfl,-⟩
 ·exact k.elim
 ·exact hr
theorem load_n (n:Nat) (hn:30000<n) (l:List TSector) (ts:List (List TTubeNode)) (s:TSpan) (later:Int):g3 n l ts s later=some true:=by
 unfold g3 g4
 rw [Option.bind_some,Bool.not_true,cond_false]
 obtain ⟨b,hb⟩:=small_tot n (by omega) ts 300
 rw [hb,Option.bind_some]
 cases b
 ·rfl
 rw [Bool.not_true,cond_false]
 rcases peaks_cases n hn l ts s with ⟨z,hz,e,-⟩|⟨hc,hsp,hl,hts,hok,⟨h1,h2,h3,h4⟩,e⟩
 ·rw [e,Option.bind_some]
  dsimp only
  rw [bne_iff_ne.2 hz,cond_true]
 have hlen:=hl.len
 rw [e,Option.bind_some]
 dsimp only
 rw [bne_self_eq_false,cond_false,wrap64 (z:=s.To-s.From) (by omega) (by omega)]
 by_cases h300:s.To-s.From>300
 ·rw [decide_eq_true h300,cond_true]
 rw [decide_eq_false h300,cond_false]
 obtain ⟨d,ed,d0,d1⟩:=pick_val n later 200 (by decide)
 rw [ed,Option.bind_some]
 refine iterO_eq (fun y=>∃i:Nat,y=((i:Int),(ts.take i).map (List.map (shT d)))∧i≤ts.length∧∀t∈ts.take i,TubeOk (t.map (shT d))∧g36 n (t.map (shT d))=some 0) true (fun y=>ts.length-y.1.toNat) (fun y ⟨i,hy,hi,hk⟩=> ?_) n _ ⟨0,rfl,by omega,by simp⟩ (by show ts.length-0<n;omega)
 subst hy
 dsimp only
 unfold S3_0
 rcases Nat.lt_or_ge i ts.length with k|k
 ·have hx:ts[i]?=some ts[i]:=List.getElem?_eq_getElem k
  generalize ts[i]=t at hx
  have hll:((ts.take i).map (List.map (shT d))).length=i:=by rw [List.length_map,List.length_take];omega
  rw [decide_eq_true (show (i:Int)<(ts.length:Int) by omega),cond_true,getI_at hx,Option.bind_some]
  rcases shift_cases n (by omega) t d with ⟨r,hr,hr2⟩|⟨k1,k2,-,-,k3,k4,hr⟩
  ·right
   rw [hr,Option.bind_some,bne_iff_ne.2 hr2,cond_true]
  ·left
   rw [hr,Option.bind_some]
   dsimp only
   rw [bne_self_eq_false,cond_false,room_of (by rw [hll];simp only [List.length_cons,List.length_nil];omega) (by rw [hll];simp only [List.length_cons,List.length_nil];omega),Option.bind_some,wS (by omega)]
   refine ⟨_,rfl,⟨i+1,by rw [take_one hx,List.map_append];rfl,by omega,fun q hq=> ?_⟩,by show ts.length-((i+1:Nat):Int).toNat<ts.length-(i:Int).toNat;omega⟩
   rw [take_one hx] at hq
   rcases List.mem_append.1 hq with h|h
   ·exact hk q h
   ·rw [List.mem_singleton] at h
    subst h
    exact ⟨k3,k4⟩
 ·right
  have hi':i=ts.length:=by omega
  subst hi'
  rw [List.take_length] at hk
  rw [decide_eq_false (show ¬(ts.length:Int)<(ts.length:Int) by omega),cond_false,List.take_length,wrap64 (z:=s.From+d) (by omega) (by omega),wrap64 (z:=s.To+d) (by omega) (by omega)]
  have hall:∀t∈ts,TubeOk t∧g36 n t=some 0∧TubeOk (t.map (shT d))∧g36 n (t.map (shT d))=some 0:=fun t ht=>⟨(hok t ht).2,(hok t ht).1,(hk t ht).1,(hk t ht).2⟩
  rcases peaks_cases n hn l (ts.map (List.map (shT d))) ⟨s.From+d,s.To+d⟩ with ⟨z,hz,e',hno⟩|⟨-,-,-,-,-,-,e'⟩
  ·rw [e',Option.bind_some]
   by_cases hT:s.To+d>200000
   ·rw [decide_eq_true hT,cond_true]
   ·exfalso
    rcases hno with h|h
    ·refine h (check_of n (by omega) l _ (check_sec n (by omega) l ts hc) (by rw [List.length_map];exact hts) fun q hq=> ?_)
     obtain ⟨t,ht,rfl⟩:=List.mem_map.1 hq
     exact (hk t ht).2
    ·exact h (span_ok n _ (by show 0≤s.From+d;omega) (by show s.From+d<s.To+d;omega) (by show s.To+d≤200001;omega) (by show s.To+d-(s.From+d)≤2000;omega))
  ·dsimp only at e'
   have ep:=pk_shift (fun t i=>ccs n l t ts i) (fun t i=>ccs n l t (ts.map (List.map (shT d))) i) l.length s.From d (fun t i=>ccs_shift n (by omega) l ts d hall t i) (s.To-s.From).toNat
   rw [show s.To+d-(s.From+d)=s.To-s.From by omega,ep] at e'
   rw [e',Option.bind_some]
   by_cases hT:s.To+d>200000
   ·rw [decide_eq_true hT,cond_true]
   rw [decide_eq_false hT,cond_false]
   dsimp only
   rw [bne_self_eq_false,cond_false,equalI n (by omega) _ (by rw [tab_len];omega),Option.bind_some,Bool.not_true,cond_false,tab_len,tab_len,bne_self_eq_false,cond_false]
   rw [later_loop n (by omega) d d0 d1 l.length (by omega) _ (fun i=>by
    have:=pk_bd (fun t i=>ccs n l t ts i) l.length s.From (s.To-s.From).toNat i
    omega)]
   rfl
theorem load_law (l:List TSector) (t:List (List TTubeNode)) (s:TSpan) (later:Int):g3 300000 l t s later=some true:=load_n 300000 (by decide) l t s later
end Go.Proofs.YtlenkbgeomojnaaGreatDoor
