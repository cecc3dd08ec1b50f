/- Parts Frs, CbW, CbH. -/
import Derived.Test.YtmechmjjcgdpdaaGreatDoorTcM
import Derived.Test.YtmechmjjcgdpdaaGreatDoorTcP
set_option linter.unusedVariables false
set_option linter.unusedSimpArgs false
namespace Go.Proofs.YtmechmjjcgdpdaaGreatDoor
open Go.RowKit Go.Shelf
theorem Y4 {c:Cx}:∀{xs:List AV} {vs:List Value},Be c xs vs→Ap xs=true→Be (D8 (fun _=>False) c.w) xs vs
 |[],_,.nil,_=> .nil
 |x::xs,_,.cons h t,hc=>by
  rw [Ap,Bool.and_eq_true] at hc
  exact .cons (Ry h hc.1) (Y4 t hc.2)
section
variable {α:Type} {E:En α}
theorem Ajv {B:Nat} {c:Cx} (g:Good B c) {look:Nat→Option Bk} (hlk:∀id b,look id=some b→c.M id=some b) {id ty:Nat} {l0 l:List α} (hl:l0.length=l.length) (hb:look id=B9 E ty l) {w:Value} (r1:A9 c (B3 E id l0) w):A9 (D8 (fun _=>False) c.w) (Ai E l) w:=by
 cases l0 with
 |nil=>
  have:l=[]:=List.eq_nil_of_length_eq_zero hl.symm
  subst this
  have:=Qv (Ry r1 rfl)
  simp only [B3,norm] at this
  exact this
 |cons x l0=>
  have hne:l≠[]:=by rintro rfl;simp at hl
  rw [C7 hne] at hb
  have hM:=hlk id _ hb
  have hlt:=g.lt hM
  obtain ⟨arr,vs,rest,q1,q2,q3,q4⟩:=g.cells hM
  rw [Ev (by simp)] at r1
  cases r1 with
  |sl ha hb2 hs hnc hc2 hex hmx=>
   rw [hl] at hnc hc2 ⊢
   exact .Dh (c:=D8 (fun _=>False) c.w) ⟨hlt,Gg _,fun h=>h⟩ (Y4 q3 (Aj l)) q4 hc2 (fun h=>by cases h) hmx
theorem cV {n id ty:Nat} {look:Nat→Option Bk} {f:FuncId} {l0 l:List α} {args ar:List AV} {v:AV} (hp:Dp Tryz.prog f) (hl:l0.length=l.length) (hb:look id=B9 E ty l) (hf:Aaf E id l0 l args ar) (hc:Ap ar=true) (hv:clean v=true)
  (h:∀(w:World) (vals:List Value),B2 KK.gl (D8 (fun _=>False) w)→Be (D8 (fun _=>False) w) ar vals→Calls Tryz.prog f vals.toArray w fun e w'=>∃v',e=.returned v'∧Kept w w'∧A9 (D8 (fun k=>k<w.heap.size) w') v v'):Gw Tryz.prog KK.gl look n f args v []:=by
 refine ⟨hp,fun B c vals g hgl hn hlk hr=> ?_⟩
 have hrr:Be (D8 (fun _=>False) c.w) ar vals:=by
  clear h
  induction hf generalizing vals with
  |here xs=>
   rw [Ap,Bool.and_eq_true] at hc
   cases hr with
   |cons r1 r2=>exact .cons (Ajv g hlk hl hb r1) (Y4 r2 hc.2)
  |skip a _ ih=>
   rw [Ap,Bool.and_eq_true] at hc
   cases hr with
   |cons r1 r2=>exact .cons (Ry r1 hc.1) (ih hc.2 _ r2)
 refine (h c.w vals (iY hgl) hrr).mono ?_
 rintro e w' ⟨v',rfl,hk,hvr⟩
 exact ⟨v',{c with w:=w'},rfl,rfl,Zz g hvr hv,Rv hk,Xq g hk,fun _=>rfl,fun _ h=> .inl h,fun _ h=>h⟩
end
end Go.Proofs.YtmechmjjcgdpdaaGreatDoor
set_option linter.unusedVariables false
set_option linter.unusedSimpArgs false
namespace Go.Proofs.YtmechmjjcgdpdaaGreatDoor
open Go.RowKit Go.Shelf
theorem Agu {no:Nat→Prop} {w:World} {L:List ByteArray} {a:Option Addr} {N c j:Nat} (h:A9 (D8 no w) (Ai Aw L) (.slice a N c)) (hj:j≤L.length):A9 (D8 no w) (Ai Aw (L.take j)) (.slice a j c):=by
 have ht:Az Aw (L.take j)=(Az Aw L).take j:=by rw [← Ii,show j*Aw.size=j from Nat.mul_one j]
 have hl:(L.take j).length=j:=by rw [List.length_take];omega
 unfold Ai at h ⊢
 rw [ht,hl]
 have hq:(Az Aw L).length=L.length:=by rw [Bt];exact Nat.mul_one _
 generalize Az Aw L=es at h hq ⊢
 generalize L.length=q at*
 cases h with
 |Dy a cap ex he hm hn=>
  obtain rfl:j=0:=by omega
  exact .Dy a c false (fun h=>by cases h) hm hn
 |Dh hb h hc hn he hm=>
  refine .Dh hb (h.take j) (fun k v hk=>hc k v ?_) (by omega) (fun h=>by cases h) hm
  rw [List.getElem?_take] at hk
  split at hk
  ·exact hk
  ·cases hk
theorem Aem {no:Nat→Prop} {w:World} {L:List ByteArray} {a:Option Addr} {N c:Nat} (h:A9 (D8 no w) (Ai Aw L) (.slice a N c)):N≤c∧c≤maxLen:=by
 unfold Ai at h
 generalize Az Aw L=es at h
 generalize L.length=q at*
 cases h with
 |Dy a cap ex he hm hn=>exact ⟨Nat.zero_le _,hm⟩
 |Dh hb h hc hn he hm=>exact ⟨hn,hm⟩
theorem wL {n:Nat} {names:List ByteArray} {j:Nat} {s:ByteArray} {e0:Int} (hs:names[j]?=some s) (h:cN n (names.drop j) (names.take j)=some e0):∃b,j7 n s=some b∧(bif !b then some 3 else bif Gc (names.take j) s then some 7 else cN n (names.drop (j+1)) (names.take (j+1)))=some e0:=by
 obtain ⟨hj,hs'⟩:=List.getElem?_eq_some_iff.1 hs
 rw [List.drop_eq_getElem_cons hj,hs',cN] at h
 rw [List.take_succ_eq_append_getElem hj,hs']
 exact Option.bind_eq_some_iff.1 h
theorem Ae2 {w w2 w3:World} {u v3:Value} {zs:List (Ab×Value)} {s:ByteArray} {o:Obj} (hs:w.heap.size≤w2.heap.size) (hz:∀z∈zs,F6 w2 w.heap.size z.2 z.1.Ak∧∀k,z.2.ownBlock=some k→u.ownBlock≠some k) (hu:∀b,u.ownBlock=some b→b<w2.heap.size)
  (hg:((w2.alloc (.cells #[.string s] 9)).alloc o).grownBy w3 u.ownBlock) (hf:∀b,v3.ownBlock=some b→u.ownBlock=some b∨w2.heap.size+2≤b):
  ∀z∈zs++[(Nw s,.slice (some ⟨w2.heap.size,0,none⟩) 1 1)],F6 w3 w.heap.size z.2 z.1.Ak∧∀k,z.2.ownBlock=some k→v3.ownBlock≠some k:=fun z hz'=>by
 rcases List.mem_append.1 hz' with hm|hm
 ·obtain ⟨h1,h2⟩:=hz z hm
  have hl:=h1.lt
  refine ⟨Gi h1 fun b hb=> ?_,fun k hk q=> ?_⟩
  ·have hb':=hl b hb
   rw [hg.block b (by rw [World.size_alloc,World.size_alloc];omega) (fun e=>h2 b hb e.symm),Below.heap_alloc _ _ _ (by rw [World.size_alloc];omega),Below.heap_alloc _ _ _ hb'.2]
  ·rcases hf k q with e|e
   ·exact h2 k hk e
   ·have:=(hl k hk).2;omega
 ·rw [List.mem_singleton.1 hm]
  have hb0:w3.heap[w2.heap.size]?=some (.cells #[.string s] 9 (0,0)):=by
   rw [hg.block w2.heap.size (by rw [World.size_alloc,World.size_alloc];omega) (fun e=>by have:=hu _ e.symm;omega),Below.heap_alloc _ _ _ (by rw [World.size_alloc];omega)]
   exact World.alloc_heap_new _ _
  refine ⟨⟨rfl,.inr ⟨w2.heap.size,1,#[.string s],rfl,hs,hb0,Nat.le_refl _,by decide,rfl,rfl⟩⟩,fun k hk q=> ?_⟩
  have hk:w2.heap.size=k:=Option.some.inj hk
  subst hk
  rcases hf _ q with e|e
  ·have:=hu _ e;omega
  ·omega
set_option maxRecDepth 100000 in
set_option maxHeartbeats 8000000 in
theorem eH {w:World} {n:Nat} {names:List ByteArray} {t:ρ6} (h:g6 n names=some t) {nv:Value} (hG:B2 KK.gl (D8 (fun _=>False) w)) (hn:A9 (D8 (fun _=>False) w) (Ai Aw names) nv):
  Calls Tryz.prog 6 #[nv] w fun e w'=>∃v',e=.returned (.tuple #[v',.int .i64 t.2])∧Kept w w'∧A9 (D8 (fun k=>k<w.heap.size) w') (Ai Ab.E t.1) v':=by
 obtain ⟨na,nc,rfl⟩:=Fo hn
 unfold g6 at h
 have nilrel:∀W:World,A9 (D8 (fun k=>k<w.heap.size) W) (Ai Ab.E []) (.slice none 0 0):=fun W=> .Dy none 0 false (fun h=>by cases h) (Nat.zero_le _) (fun _=>rfl)
 by_cases h0:names.length=0
 ·rw [if_pos h0] at h
  cases h
 rw [if_neg h0] at h
 by_cases h12:12<names.length
 ·rw [if_pos h12] at h
  cases h
  clear hn hG
  generalize hN:names.length=N at*
  have hgt:(N:Int)>12:=by omega
  go_enter Tryz.func6,Tryz.ntmps6
  go_wp2_with fail
  refine bodyPost_ret (results_tmp2 rfl _ _ _) rfl ?_
  exact ⟨_,rfl,Kept.refl _,nilrel _⟩
 rw [if_neg h12] at h
 obtain ⟨e0,he0,h⟩:=Option.bind_eq_some_iff.1 h
 have HL:=Lib.hid hn
 have HE:=Lib.hid he0
 have HH:=Lib.hid h
 have HGl:=Lib.hid hG
 clear hn he0 h hG
 change Int at e0
 generalize hN:names.length=N at*
 have hgt:¬(N:Int)>12:=by omega
 obtain ⟨i1,hi1,hzz⟩:=Option.bind_eq_some_iff.1 Yp
 obtain ⟨y1,hy0,hzz⟩:=Option.map_eq_some_iff.1 hzz
 simp only [Prod.mk.injEq] at hzz
 obtain ⟨hyc,hy1,hy2⟩:=hzz
 go_enter Tryz.func6,Tryz.ntmps6
 go_wp2_with fail
 go_loopw [4,12] (fun u i wr=>∃(j:Nat) (zs:List (Ab×Value)),j≤N∧i=.int .i64 j∧Kept w wr∧Hid (zs.map (·.1)=(names.take j).map Nw∧wr.ownsRow w.heap.size 37 2 u zs.length (Ea zs)∧(∀z∈zs,F6 wr w.heap.size z.2 z.1.Ak∧∀k,z.2.ownBlock=some k→u.ownBlock≠some k)∧cN n (names.drop j) (names.take j)=some e0)) (fun _ i=>fun _=>N-(intOf i).toNat)
 case atStart=>exact ⟨0,[],Nat.zero_le _,rfl,Kept.refl _,Lib.hid ⟨rfl,World.ownsRow_nil _ _ _ _,by simp,by simpa using HE.out⟩⟩
 case round=>
  obtain ⟨j,zs,hj,rfl,hkr,hR⟩:=hrel
  by_cases hlt:j<N
  ·have hs:names[j]?=some names[j]:=List.getElem?_eq_getElem (by omega)
   generalize names[j]=s at hs
   have hnr:A9 (D8 (fun _=>False) wr) (Ai Aw names) (.slice na N nc):=(hkr.gH _).rel HL.out (Cq _ _)
   obtain ⟨nb,no_,ncap,hnv,hnb,-,hcn⟩:=Qk hnr (by rintro rfl;cases hs)
   rw [hN] at hnv
   cases hnv
   have hsc:wr.cell? ⟨nb,no_+j,none⟩=some (.string s):=by
    have:=hcn j s hs 0 (.string s) (by decide) rfl
    rwa [show no_+(j*Aw.size+0)=no_+j by show no_+(j*1+0)=_;omega] at this
   have d1:(j:Int)<(N:Int):=by omega
   obtain ⟨b,hb,hE2⟩:=wL hs hR.out.2.2.2
   have hcN:=Js (vH hb) (w:=w) HGl.out (.cons (.sc _ rfl) .nil) wr hkr
   have HS:=Lib.hid (And.intro hs hE2)
   clear hs hE2 hcn hnr hb
   obtain ⟨ua,uc,rfl⟩:=Dj hR.out.2.1
   go_wp2_with fail
   refine hcN.mono ?_
   rintro e w2 ⟨v2,rfl,hk2,hv2⟩
   obtain rfl:=mL hv2
   clear hcN hv2
   cases b with
   |false=>
    have hE3:=HS.out.2
    rw [Bool.not_false,cond_true] at hE3
    cases hE3
    go_wp2_with fail
    refine bodyPost_ret (results_tmp2 rfl _ _ _) rfl ?_
    have h:=HH.out
    rw [show ((3:Int) !=0)=true from rfl,cond_true] at h
    cases h
    exact ⟨_,rfl,hkr.trans hk2,nilrel _⟩
   |true=>
    have hE3:=HS.out.2
    rw [Bool.not_true,cond_false] at hE3
    have hkr2:=hkr.trans hk2
    have hn2:A9 (D8 (fun _=>False) w2) (Ai Aw names) (.slice (some ⟨nb,no_,none⟩) N nc):=(hkr2.gH _).rel HL.out (Cq _ _)
    have hcC:=M1 (Agu hn2 (j:=j) (by omega)) s
    obtain ⟨hcap,hcm⟩:=Aem hn2
    have hjc:(j:Int)≤(nc:Int):=by omega
    clear hn2
    cases hq:Gc (names.take j) s with
    |true=>
     rw [hq] at hcC
     rw [hq,cond_true] at hE3
     cases hE3
     clear hq
     go_wp2_with fail
     refine hcC.mono ?_
     rintro e w' ⟨rfl,rfl⟩
     clear hcC
     go_wp2_with fail
     refine bodyPost_ret (results_tmp2 rfl _ _ _) rfl ?_
     have h:=HH.out
     rw [show ((7:Int) !=0)=true from rfl,cond_true] at h
     cases h
     exact ⟨_,rfl,hkr2,nilrel _⟩
    |false=>
     rw [hq] at hcC
     rw [hq,cond_false] at hE3
     have HE3:=Lib.hid hE3
     clear hq hE3
     go_wp2_with fail
     refine hcC.mono ?_
     rintro e w' ⟨rfl,rfl⟩
     clear hcC
     have hzl:zs.length=j:=by
      have:=congrArg List.length hR.out.1
      rw [List.length_map,List.length_map,List.length_take] at this
      omega
     have ho2:=Kd hR.out.2.1 hk2
     have HZL:=Lib.hid hzl
     clear hzl
     go_wp2_with (at_builtin;refine H8 _ rfl _ _ 33 rfl w.heap.size 37 i1 y1 2 40 Tryz.underlying33 hi1 hy0 hy1 hy2 hyc (by decide) (.slice ua zs.length uc) zs.length (Ea zs) rfl ?c0 ⟨w'.heap.size+1,0,none⟩ 1 1 [.string s,.slice (some ⟨w'.heap.size,0,none⟩) 1 1] rfl rfl ?c1 ?c2 ?c3 ?c4 ?c5 ?_)
     case c0=>exact (ho2.alloc _).alloc _
     case c1=>
      intro k u hu
      have:=W5 (w'.alloc (.cells #[.string s] 9)) (.string s) (.slice (some ⟨w'.heap.size,0,none⟩) 1 1) 37 k u hu
      simpa using this
     case c2=>
      intro u hu
      rcases List.mem_cons.1 hu with rfl|hu
      ·rfl
      ·rw [List.mem_singleton.1 hu];rfl
     case c3=>have:=HZL.out;simp only [maxLen];omega
     case c4=>have:=HZL.out;omega
     case c5=>
      have:=hkr2.size
      rw [World.size_alloc,World.size_alloc]
      omega
     intro v9 w9 hown9 hgrow9 hfr9 hdr9
     have hzs:=Ae2 (w:=w) (w2:=w') (w3:=w9) (u:=.slice ua zs.length uc) (v3:=v9) (zs:=zs) (s:=s) hkr2.size (fun z hz=>⟨Kd (hR.out.2.2.1 z hz).1 hk2,(hR.out.2.2.1 z hz).2⟩) (fun b hb=>(ho2.lt b hb).2) hgrow9 (fun b hb=>by
      rcases hfr9 b hb with q|q
      ·exact .inl q
      ·right
       omega)
     have hkw9:Kept w w9:=Jn ((hkr2.al _).al _) hgrow9 (fun b hb=>(ho2.lt b hb).1) hdr9
     obtain ⟨va,vc,rfl⟩:=Dj hown9
     have FIN:=Lib.hid (And.intro hown9 (And.intro hzs hkw9))
     clear hown9 hzs hkw9 hgrow9 hfr9 hdr9 ho2
     go_wp2_with fail
     refine ⟨⟨j+1,zs++[(Nw s,.slice (some ⟨w'.heap.size,0,none⟩) 1 1)],hlt,by rw [show (j:Int)+1=((j+1:Nat):Int) by omega],FIN.out.2.2,Lib.hid ⟨?_,?_,FIN.out.2.1,HE3.out⟩⟩,by simp [intOf];omega⟩
     ·obtain ⟨hj',hs'⟩:=List.getElem?_eq_some_iff.1 HS.out.1
      rw [List.take_succ_eq_append_getElem hj',hs',List.map_append,List.map_append,hR.out.1]
      rfl
     ·have:=FIN.out.1
      rw [List.length_append,List.length_singleton]
      unfold Ea at this ⊢
      rw [List.flatMap_append]
      exact this
  ·obtain rfl:j=N:=by omega
   have hlt':¬(j:Int)<(j:Int):=by omega
   obtain ⟨hz1,ho,hz2,hE⟩:=hR.out
   rw [List.drop_of_length_le (by omega)] at hE
   rw [List.take_of_length_le (by omega)] at hz1
   obtain rfl:(0:Int)=e0:=Option.some.inj hE
   have h:=HH.out
   rw [show ((0:Int) !=0)=false from rfl,cond_false] at h
   obtain ⟨r,hr,ht⟩:=Option.map_eq_some_iff.1 h
   have hzl:zs.length=j:=by
    have:=congrArg List.length hz1
    rw [List.length_map,List.length_map] at this
    omega
   have hcO:=Sm (w:=wr) (base:=w.heap.size) (zs:=zs) (r:=r) ho (fun z hz=>by obtain ⟨a,c,q⟩:=Dj (hz2 z hz).1;exact ⟨a,_,c,q⟩) (by rintro rfl;exact h0 hzl.symm) (by omega) (by rw [hz1];exact hr)
   obtain ⟨ua,uc,rfl⟩:=Dj ho
   rw [hzl] at hcO
   have HZ:=Lib.hid (And.intro ho (And.intro hz2 ht))
   clear ho hz2 ht hz1 hE h hr HL HE HGl
   go_wp2_with fail
   refine hcO.mono ?_
   rintro e w10 ⟨rfl,zs2,hr2,hp2,hown10,hk10⟩
   clear hcO
   go_wp2_with fail
   refine bodyPost_ret (results_tmp2 rfl _ _ _) rfl ?_
   obtain ⟨ho,hz2,ht⟩:=HZ.out
   subst ht
   refine ⟨_,rfl,hk10.kept hkr.size (fun k hk=>(ho.lt k (by rw [hzl];exact hk)).1) hkr,?_⟩
   subst hr2
   refine bW (E:=Ab.E) (base:=w.heap.size) (by rw [List.length_map];exact hown10) (bJ (base:=w.heap.size) (fun k hk=>hk) fun z hz=> ?_) (fun k hk=>hk)
   obtain ⟨h1,h2⟩:=hz2 z (hp2.mem_iff.1 hz)
   exact Gi h1 fun b hb=>hk10.Bd b (h1.lt b hb).2 fun q=>h2 b hb (by rw [hzl];exact q)
end Go.Proofs.YtmechmjjcgdpdaaGreatDoor
set_option linter.unusedVariables false
set_option linter.unusedSimpArgs false
namespace Go.Proofs.YtmechmjjcgdpdaaGreatDoor
open Go.RowKit Go.Shelf
theorem jC {n:Nat} {names:List ByteArray} {t:ρ6} (h:g6 n names=some t) (w:World) (vals:List Value) (hG:B2 KK.gl (D8 (fun _=>False) w)) (hr:Be (D8 (fun _=>False) w) [Ai Aw names] vals):
  Calls Tryz.prog 6 vals.toArray w fun e w'=>∃v',e=.returned v'∧Kept w w'∧A9 (D8 (fun k=>k<w.heap.size) w') (.Bn [Ai Ab.E t.1,Aa t.2]) v':=by
 cases hr with
 |cons r1 hr=>
 cases hr
 refine (eH h hG r1).mono ?_
 rintro e w' ⟨v',rfl,hk,hv⟩
 exact ⟨_,rfl,hk,.Bn (.cons hv (.cons (.sc _ rfl) .nil))⟩
theorem b8:Dp Tryz.prog 6:=⟨Tryz.f6,_,Tryz.func6,rfl,by kernel_rfl⟩
theorem eP {t:ρ6}:clean (.Bn [Ai Ab.E t.1,Aa t.2])=true:=by simp [clean,Ap,Aj]
theorem Aoq {n nx id ty:Nat} {look:Nat→Option Bk} {l0 names:List ByteArray} {t:ρ6} (hl:l0.length=names.length) (hb:look id=B9 Aw ty names) (h:g6 n names=some t):Gw Tryz.prog KK.gl look nx 6 [B3 Aw id l0] (.Bn [Ai Ab.E t.1,Aa t.2]) []:=
 cV b8 hl hb oX (by simp [Ap,clean,Aj]) eP (jC h)
end Go.Proofs.YtmechmjjcgdpdaaGreatDoor
