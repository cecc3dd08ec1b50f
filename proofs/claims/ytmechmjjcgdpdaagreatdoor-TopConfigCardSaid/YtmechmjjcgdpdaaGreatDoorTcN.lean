/- Parts CcW, CcH. -/
import Derived.Test.YtmechmjjcgdpdaaGreatDoorTcM
import Derived.Test.YtmechmjjcgdpdaaGreatDoorX1S
set_option linter.unusedVariables false
set_option linter.unusedSimpArgs false
namespace Go.Proofs.YtmechmjjcgdpdaaGreatDoor
open Go.RowKit Go.Shelf
theorem eK {w:World} {b b' sz n:Nat} {T:TypeId} {v:Value} {xs:List Value} (h:w.ownsRow b T sz v n xs) (hb:∀k,v.ownBlock=some k→b'≤k):w.ownsRow b' T sz v n xs:=by
 refine ⟨h.1,?_⟩
 rcases h.2 with q|⟨g,cap,cur,rfl,q2,q3,q4⟩
 ·exact .inl q
 ·exact .inr ⟨g,cap,cur,rfl,hb g rfl,q3,q4⟩
theorem vP {w w4 w8:World} {base gb gx I L cap B:Nat} {l:List Ab} {ps:List (ByteArray×Value)} {x:Ab} {px:ByteArray} {v0 v8:Value} {s:List ByteArray} (hc:aA w4 base gb l ps)
  (ho:w4.ownsRow B 37 2 (.slice (some ⟨gb,0,none⟩) L cap) L (Eo ps)) (hx:l[I]?=some x) (hq:ps[I]?=some (px,v0)) (h0:v0.ownBlock=some gx) (hg:w4.grownBy w8 (some gx)) (hv:w8.ownsRow w.heap.size 9 1 v8 s.length (Ln s))
  (hf:∀b,v8.ownBlock=some b→v0.ownBlock=some b∨w4.heap.size≤b) (hbase:base≤w4.heap.size):
  aA (w8.setCell ⟨gb,I*2+1,none⟩ v8) base gb (l.set I ⟨x.Position,s⟩) (ps.set I (px,v8))∧(w8.setCell ⟨gb,I*2+1,none⟩ v8).ownsRow B 37 2 (.slice (some ⟨gb,0,none⟩) L cap) L (Eo (ps.set I (px,v8))):=by
 have hout:=hc.out
 have hgx:=hc.Bd hq gx h0
 have hb8:∀b,v8.ownBlock=some b→base≤b:=fun b hb=>by
  rcases hf b hb with q|q
  ·exact (hc.Bd hq b q).1
  ·omega
 have hrow:F6 w8 base v8 s:=eK hv hb8
 have hgb:w8.heap[gb]?=w4.heap[gb]?:=hg.block gb (by have:=ho.lt gb rfl;omega) (fun e=>by cases e;omega)
 refine ⟨hc.put hx hq (fun k r b hk hr hb=> ?_) (Ke hrow _ _ fun q=>by have:base≤gb:=hb8 _ q;omega),?_⟩
 ·have hbb:=hc.Bd hr b hb
  have hne:b≠gx:=by
   rintro rfl
   exact hk (hc.sep k I r _ b hr hq hb h0)
  refine ⟨?_,fun q=> ?_⟩
  ·rw [Below.heap_setCell _ _ _ _ (by show b≠gb;omega)]
   exact hg.block b hbb.2 (fun e=>hne (Option.some.inj e))
  ·rcases hf b q with q|q
   ·rw [h0] at q;exact hne (Option.some.inj q).symm
   ·omega
 ·have h1:=(Mi (W':=w8) ho (fun b hb=>by cases hb;exact hgb)).stored (2*I+1) v8
  rw [Lc ps I px v0 v8 hq,Nat.mul_comm 2 I] at h1
  exact h1.1
theorem Aab {W9 W10:World} {base gb I L cap B:Nat} {l:List Ab} {ps:List (ByteArray×Value)} {x:Ab} {px:ByteArray} {v8:Value} {s:List ByteArray} (hc:aA W9 base gb l ps)
  (ho:W9.ownsRow B 37 2 (.slice (some ⟨gb,0,none⟩) L cap) L (Eo ps)) (hx:l[I]?=some x) (hq:ps[I]?=some (px,v8)) (hk:Oo (fun k=>v8.ownBlock=some k) W9 W10) (hv:F6 W10 base v8 s):
  aA W10 base gb (l.set I ⟨x.Position,s⟩) ps∧W10.ownsRow B 37 2 (.slice (some ⟨gb,0,none⟩) L cap) L (Eo ps):=by
 have hout:=hc.out
 have hps:ps.set I (px,v8)=ps:=by
  refine List.ext_getElem? fun i=> ?_
  by_cases e:i=I
  ·subst e;rw [List.getElem?_set_self (F9 hq),hq]
  ·rw [List.getElem?_set_ne (Ne.symm e)]
 refine ⟨?_,Mi ho fun b hb=> ?_⟩
 ·have:=hc.put (W':=W10) hx hq (fun k r b hk' hr hb=> ?_) hv
  ·rwa [hps] at this
  ·have hbb:=hc.Bd hr b hb
   have hne:v8.ownBlock≠some b:=fun q=>hk' (hc.sep k I r _ b hr hq hb q)
   exact ⟨hk.Bd b hbb.2 hne,hne⟩
 ·cases hb
  exact hk.Bd gb (ho.lt gb rfl).2 (fun q=>by have:=(hc.Bd hq gb q).1;omega)
theorem O1 {α:Type} {l:List α} {i:Nat} {x:α} (h:l[i]?=some x):i<l.length:=(List.getElem?_eq_some_iff.1 h).1
set_option maxRecDepth 100000 in
set_option maxHeartbeats 8000000 in
theorem iM {w:World} {n:Nat} {l:List Ab} {to from_:ByteArray} {t:ρ8} (h:g8 n l to from_=some t) {lv:Value} (hG:B2 KK.gl (D8 (fun _=>False) w)) (hl:A9 (D8 (fun _=>False) w) (Ai Ab.E l) lv):
  Calls Tryz.prog 8 #[lv,.string to,.string from_] w fun e w'=>∃v',e=.returned (.tuple #[v',.int .i64 t.2])∧Kept w w'∧A9 (D8 (fun k=>k<w.heap.size) w') (Ai Ab.E t.1) v':=by
 obtain ⟨la,lc,rfl⟩:=Fo hl
 unfold g8 at h
 obtain ⟨e0,he0,h⟩:=Option.bind_eq_some_iff.1 h
 have hcK:=fun W (hk:Kept w W)=>Js (Adt he0) (w:=w) hG (.cons hl .nil) W hk
 have nilrel:∀W:World,A9 (D8 (fun k=>k<w.heap.size) W) (Ai Ab.E []) (.slice none 0 0):=fun W=> .Dy none 0 false (fun h=>by cases h) (Nat.zero_le _) (fun _=>rfl)
 by_cases h0:e0=0
 case neg=>
  rw [bne_iff_ne.2 h0,cond_true] at h
  cases h
  have hb:(e0 !=0)=true:=bne_iff_ne.2 h0
  clear hl he0
  generalize hL:l.length=L at*
  go_enter Tryz.func8,Tryz.ntmps8
  go_wp2_with fail
  refine (hcK w (Kept.refl _)).mono ?_
  rintro e w1 ⟨v1,rfl,hk1,hv1⟩
  obtain rfl:=Jp hv1
  clear hcK hv1
  go_wp2_with fail
  refine bodyPost_ret (results_tmp2 rfl _ _ _) rfl ?_
  exact ⟨_,rfl,hk1,nilrel _⟩
 subst h0
 rw [show ((0:Int) !=0)=false from rfl,cond_false] at h
 obtain ⟨i,hi,h⟩:=Option.bind_eq_some_iff.1 h
 obtain ⟨k,hk,h⟩:=Option.bind_eq_some_iff.1 h
 have hcI:=fun W (hK:Kept w W)=>Js (Afs hi) (w:=w) hG (.cons hl (.cons (.sc _ rfl) .nil)) W hK
 have hcJ:=fun W (hK:Kept w W)=>Js (Afs hk) (w:=w) hG (.cons hl (.cons (.sc _ rfl) .nil)) W hK
 have HGl:=Lib.hid hG
 clear hG
 replace h:=Lib.hid h
 have HL:=Lib.hid hl
 clear hl he0 hi hk
 change Int at i
 change Int at k
 generalize hL:l.length=L at*
 go_enter Tryz.func8,Tryz.ntmps8
 go_wp2_with fail
 refine (hcK w (Kept.refl _)).mono ?_
 rintro e w1 ⟨v1,rfl,hk1,hv1⟩
 obtain rfl:=Jp hv1
 go_wp2_with fail
 refine (hcI w1 hk1).mono ?_
 rintro e w2 ⟨v2,rfl,hk2,hv2⟩
 obtain rfl:=Jp hv2
 go_wp2_with fail
 refine (hcJ w2 (hk1.trans hk2)).mono ?_
 rintro e w3 ⟨v3,rfl,hk3,hv3⟩
 obtain rfl:=Jp hv3
 have hk03:=(hk1.trans hk2).trans hk3
 clear hcK hcI hcJ hv1 hv2 hv3
 by_cases hi0:i<0
 ·have h:=h.out
  rw [if_pos (.inl hi0)] at h
  cases h
  go_wp2_with fail
  refine bodyPost_ret (results_tmp2 rfl _ _ _) rfl ?_
  exact ⟨_,rfl,hk03,nilrel _⟩
 by_cases hk0:k<0
 ·have h:=h.out
  rw [if_pos (.inr hk0)] at h
  cases h
  go_wp2_with fail
  refine bodyPost_ret (results_tmp2 rfl _ _ _) rfl ?_
  exact ⟨_,rfl,hk03,nilrel _⟩
 by_cases hik:i=k
 ·have h:=h.out
  rw [if_neg (not_or.2 ⟨hi0,hk0⟩),if_pos hik] at h
  cases h
  subst hik
  go_wp2_with fail
  refine bodyPost_ret (results_tmp2 rfl _ _ _) rfl ?_
  exact ⟨_,rfl,hk03,nilrel _⟩
 have h9:=h.out
 rw [if_neg (not_or.2 ⟨hi0,hk0⟩),if_neg hik] at h9
 obtain ⟨x,hx,h9⟩:=Option.bind_eq_some_iff.1 h9
 obtain ⟨y,hy,h9⟩:=Option.bind_eq_some_iff.1 h9
 split at h9
 case isFalse=>cases h9
 rename_i hroom
 obtain ⟨I,rfl⟩:∃I:Nat,i=(I:Int):=⟨i.toNat,(Int.toNat_of_nonneg (Int.not_lt.1 hi0)).symm⟩
 obtain ⟨K,rfl⟩:∃K:Nat,k=(K:Int):=⟨k.toNat,(Int.toNat_of_nonneg (Int.not_lt.1 hk0)).symm⟩
 rw [Int.toNat_natCast] at hx h9
 rw [Int.toNat_natCast] at hy h9
 have hxL:=O1 hx
 have hyL:=O1 hy
 rw [hL] at hxL hyL
 have hcCp:=fun W (hK:Kept w W)=>Pp ((hK.gH _).rel HL.out (Cq _ _)) (by rintro rfl;simp at hL;omega) (by rw [hL];exact hroom.1) (fun g hg=>(hroom.2.2 g hg).1)
 rw [hL] at hcCp
 clear h
 have HX:=Lib.hid (And.intro hx (And.intro hy h9))
 clear hx hy h9
 go_wp2_with fail
 refine (hcCp w3 hk03).mono ?_
 rintro e w4 ⟨gb,cap,ps,base,rfl,hk4,hg1,hown,hcps,hbs⟩
 clear hcCp
 have hk04:=hk03.trans hk4
 obtain ⟨hx,hy,h9⟩:=HX.out
 have hik':I≠K:=fun e=>hik (by rw [e])
 obtain ⟨qx,hqx⟩:∃q,ps[I]?=some q:=⟨_,List.getElem?_eq_getElem (by rw [hcps.len,hL];exact hxL)⟩
 obtain ⟨qy,hqy⟩:∃q,ps[K]?=some q:=⟨_,List.getElem?_eq_getElem (by rw [hcps.len,hL];exact hyL)⟩
 have rx:=hcps.new I x qx hx hqx hxL
 have ry:=hcps.new K y qy hy hqy hyL
 obtain ⟨px,vx⟩:=qx
 obtain ⟨py,vy⟩:=qy
 obtain ⟨xa,xc,rfl⟩:=Dj rx
 obtain ⟨ya,yc,rfl⟩:=Dj ry
 have c1:w4.cell? ⟨gb,I*2+1,none⟩=some (.slice xa x.Ak.length xc):=by
  rw [Nat.mul_comm,hown.cellAt (2*I+1) (by omega)]
  exact (Hf hqx).2
 have c2:w4.cell? ⟨gb,K*2+1,none⟩=some (.slice ya y.Ak.length yc):=by
  rw [Nat.mul_comm,hown.cellAt (2*K+1) (by omega)]
  exact (Hf hqy).2
 have f1:w4.frozen? ⟨gb,I*2+1,none⟩=false:=by rw [Nat.mul_comm];exact hown.frozenAt (2*I+1)
 have d1:(I:Int)<(L:Int):=by omega
 have d2:(K:Int)<(L:Int):=by omega
 obtain ⟨i0,hi,hzz⟩:=Option.bind_eq_some_iff.1 bT
 obtain ⟨z0,hz0,hzz⟩:=Option.map_eq_some_iff.1 hzz
 simp only [Prod.mk.injEq] at hzz
 obtain ⟨hzc,hz1,hz2⟩:=hzz
 have hxr:=hroom.2.2 x (List.mem_of_getElem? hx)
 have hyr:=hroom.2.2 y (List.mem_of_getElem? hy)
 obtain ⟨gx,rfl⟩:∃gx,xa=some ⟨gx,0,none⟩:=by
  rcases rx.2 with ⟨q1,q2⟩|⟨g,cap',cur,q1,q2,q3,q4⟩
  ·omega
  ·cases q1;exact ⟨g,rfl⟩
 obtain ⟨gy,rfl⟩:∃gy,ya=some ⟨gy,0,none⟩:=by
  rcases ry.2 with ⟨q1,q2⟩|⟨g,cap',cur,q1,q2,q3,q4⟩
  ·omega
  ·cases q1;exact ⟨g,rfl⟩
 have hcells:=ry.cells (g:=gy) rfl
 have CE:=Lib.hid (And.intro hcps (And.intro hown (And.intro rx ry)))
 have HH:=Lib.hid (And.intro hx (And.intro hy (And.intro h9 (And.intro hqx (And.intro hqy hcells)))))
 clear hcps hown rx ry hx hy h9 hqx hqy hcells
 generalize hSx:x.Ak.length=Sx at*
 generalize hSy:y.Ak.length=Sy at*
 have hgx:gx≠gb:=by
  have:=(CE.out.2.2.1.lt gx rfl).1
  have:=CE.out.1.out
  omega
 have hgb4:gb<w4.heap.size:=by have:=CE.out.1.out;omega
 have hkeep:∀W,w4.grownBy W (some gx)→W.cell? ⟨gb,I*2+1,none⟩=some (.slice (some ⟨gx,0,none⟩) Sx xc)∧W.frozen? ⟨gb,I*2+1,none⟩=false:=fun W hgr=>by
  have hb:=hgr.block gb hgb4 (fun e=>hgx (Option.some.inj e).symm)
  refine ⟨?_,?_⟩
  ·rw [← c1];simp only [World.cell?,hb]
  ·rw [← f1];simp only [World.frozen?,hb]
 have KP:=Lib.hid hkeep
 have rxo:w4.ownsRow w.heap.size 9 1 (.slice (some ⟨gx,0,none⟩) Sx xc) Sx (Ln x.Ak):=by
  have:=iR CE.out.2.2.1 (b':=w.heap.size) (by have:=CE.out.1.out;have:=hk03.size;omega)
  rwa [hSx] at this
 have newc:=HH.out.2.2.2.2.2
 have newl:(Ln y.Ak).length=Sy*1:=by simp [Ln,hSy]
 have new1c:∀u∈Ln y.Ak,u.oneCell'=true:=fun u hu=>by
  obtain ⟨a,-,rfl⟩:=List.mem_map.1 hu
  rfl
 have hs04:=hk04.size
 clear hkeep
 go_wp2_with fail
 go_region_law (refine V9 rfl _ _ 29 rfl w.heap.size 9 i0 z0 1 16 Tryz.underlying29 hi hz0 hz1 hz2 hzc (by decide) (.slice (some ⟨gx,0,none⟩) Sx xc) Sx (Ln x.Ak) (by rfl) rxo ⟨gy,0,none⟩ Sy yc (Ln y.Ak) (by rfl) newl newc new1c (by simp only [maxLen];omega) (by omega) hs04 ?_;intro v8 w8 hown8 hgrow8 hfr8 hdr8;have hgrow9:w4.grownBy w8 (some gx):=⟨hgrow8.os,hgrow8.tape,hgrow8.output,hgrow8.size,hgrow8.block⟩;have z12:=KP.out w8 hgrow9;obtain ⟨z1,z2⟩:=z12;obtain ⟨va,vc,rfl⟩:=Dj hown8)
 all_goals
  obtain ⟨hcps4,hown4,rx4,ry4⟩:=CE.out
  obtain ⟨hx,hy,h9,hqx,hqy,-⟩:=HH.out
  have hcp4:=hcps4.cpx hL.symm
  have hrow8:w8.ownsRow w.heap.size 9 1 (.slice va (Sx+Sy) vc) (x.Ak++y.Ak).length (Ln (x.Ak++y.Ak)):=by
   rw [List.length_append,hSx,hSy]
   have:Ln (x.Ak++y.Ak)=Ln x.Ak++Ln y.Ak:=List.map_append
   rw [this]
   exact hown8
  obtain ⟨hcp9,ho9⟩:=vP hcp4 hown4 hx hqx rfl hgrow9 hrow8 hfr8 hbs
  have hkw8:Kept w w8:=Jn hk04 hgrow9 (fun b hb=>by cases hb;have:=hcp4.Bd hqx gx rfl;have:=hcp4.out;have:=hk03.size;omega) (Nat.le_trans (by first|exact Nat.le_succ _|exact Nat.le_add_right _ _) hdr8)
  have hkw9:=hkw8.set ⟨gb,I*2+1,none⟩ (by show w.heap.size≤gb;have:=hk03.size;omega) (.slice va (Sx+Sy) vc)
  have hIx:I<ps.length:=F9 hqx
  have hq9:(ps.set I (px,.slice va (Sx+Sy) vc))[I]?=some (px,.slice va (Sx+Sy) vc):=List.getElem?_set_self hIx
  have hx9:(l.set I ⟨x.Position,x.Ak++y.Ak⟩)[I]?=some ⟨x.Position,x.Ak++y.Ak⟩:=List.getElem?_set_self (F9 hx)
  generalize hps9:ps.set I (px,.slice va (Sx+Sy) vc)=ps9 at*
  generalize hW9:w8.setCell ⟨gb,I*2+1,none⟩ (.slice va (Sx+Sy) vc)=W9 at*
  have u1:W9.cell? ⟨gb,I*2+1,none⟩=some (.slice va (Sx+Sy) vc):=by
   rw [Nat.mul_comm,ho9.cellAt (2*I+1) (by omega)]
   exact (Hf hq9).2
  have hcS:=y4 Z9 (w:=W9) (base:=base) (v:=.slice va (Sx+Sy) vc) (s:=x.Ak++y.Ak) (hcp9.row I _ _ hx9 hq9).2 (fun q=>absurd (congrArg List.length q) (by rw [List.length_append,hSx,hSy];show ¬Sx+Sy=0;omega)) (by rw [List.length_append,hSx,hSy];omega)
  have HF:=Lib.hid (And.intro hcp9 (And.intro ho9 (And.intro hkw9 (And.intro hx9 (And.intro hq9 (And.intro h9 (And.intro hx (And.intro hL hps9))))))))
  clear hcps4 hown4 rx4 ry4 hx hy h9 hqx hqy hcp4 hrow8 hown8 hcp9 ho9 hkw8 hkw9 hx9 hq9 hps9 hW9 CE HH KP HX HL hIx z1 z2 c1 c2 f1 hgrow8 hgrow9 newc newl new1c rxo hk1 hk2 hk3 hk4
  go_wp2_with fail
  refine hcS.mono ?_
  rintro e w10 ⟨rfl,hrow10,hk10⟩
  clear hcS u1
  obtain ⟨hcp9,ho9,hkw9,hx9,hq9,h9,hx,hL,hps9⟩:=HF.out
  obtain ⟨hcp10,ho10⟩:=Aab hcp9 ho9 hx9 hq9 hk10 hrow10
  rw [List.set_set] at hcp10
  have hgw:w.heap.size≤gb:=by have:=hk03.size;omega
  have hkw10:Kept w w10:=hk10.kept hkw9.size (fun k hk=>by have:=(hcp9.Bd hq9 k hk).1;have:=hcp9.out;omega) hkw9
  obtain ⟨zs,hz1,hz2,hz3⟩:=hcp10.zip
  have hzl:zs.length=L:=by rw [← List.length_map (f:=(·.1)),hz1,List.length_set,hL]
  rw [← hz2,← hzl] at ho10
  have hcD:=Amh (K:=K) (by omega) (by rw [hzl];omega) ho10 (fun z hz=>by obtain ⟨a,c,q⟩:=Dj (hz3 z hz);exact ⟨a,_,c,q⟩) ((HGl.out.no (fun k hk=>by cases hk;exact hgw)).gH (hkw10.gH _))
  rw [hzl] at hcD
  have HD:=Lib.hid (And.intro hz1 (And.intro hz3 (And.intro hkw10 (And.intro hcp10.out h9))))
  have hg10:=(ho10.lt gb rfl).2
  clear hcp9 ho9 hkw9 hx9 hq9 h9 hx hL hps9 hcp10 ho10 hkw10 hz1 hz2 hz3 HF hrow10 hk10
  go_wp2_with fail
  refine hcD.mono ?_
  rintro e w11 ⟨b,cap',arr,rest,rfl,hb,ha,hcl,hcm,hbo,hk11⟩
  clear hcD
  go_wp2_with fail
  refine bodyPost_ret (results_tmp2 rfl _ _ _) rfl ?_
  obtain ⟨hz1,hz3,hkw10,hout,h9⟩:=HD.out
  have hbw:w.heap.size≤b:=by
   rcases hbo with q|q
   ·cases q;exact hgw
   ·have:=hkw10.size;omega
  cases h9
  refine ⟨_,rfl,hk11.kept hkw10.size (fun k hk=>by cases hk;exact hgw) hkw10,?_⟩
  have hfin:=Am2 (no:=fun k=>k<w.heap.size) (base:=base) (W:=w11) (fun k hk=>by have:=hk;omega) (zs:=zs.eraseIdx K) (fun z hz=> ?_) hb ha hcl hcm (by show ¬b<w.heap.size;omega)
  ·have hm:(zs.eraseIdx K).map (·.1)=(zs.map (·.1)).eraseIdx K:=by
    rw [List.eraseIdx_eq_take_drop_succ,List.eraseIdx_eq_take_drop_succ,List.map_append,List.map_take,List.map_drop]
   rw [hm,hz1] at hfin
   exact hfin
  ·have h3:=hz3 z (List.mem_of_mem_eraseIdx hz)
   refine Gi h3 fun k hk=>hk11.Bd k (h3.lt k hk).2 (fun q=> ?_)
   cases q
   have h4:base≤gb:=(h3.lt _ hk).1
   omega
end Go.Proofs.YtmechmjjcgdpdaaGreatDoor
set_option linter.unusedVariables false
set_option linter.unusedSimpArgs false
namespace Go.Proofs.YtmechmjjcgdpdaaGreatDoor
open Go.RowKit Go.Shelf
theorem sg8 {n:Nat} {l:List Ab} {to from_:ByteArray} {t:ρ8} (h:g8 n l to from_=some t):Cj Tryz.prog KK.gl 8 [Ai Ab.E l,Bq to,Bq from_] (.Bn [Ai Ab.E t.1,Aa t.2]):=by
 refine Nj ⟨Tryz.f8,_,Tryz.func8,rfl,by kernel_rfl⟩ (by simp [Ap,clean,Aj]) (by simp [clean,Ap,Aj]) fun B c vals g hgl hrel=> ?_
 cases hrel with
 |cons r1 hrel=>
 cases hrel with
 |cons r2 hrel=>
 cases hrel with
 |cons r3 hrel=>
 cases hrel
 cases r2
 cases r3
 refine (iM h (iY hgl) (Ry r1 (Cq _ _))).mono ?_
 rintro e w' ⟨v',rfl,hk,hv⟩
 exact ⟨_,rfl,hk,.Bn (.cons (Zz g hv (Cq _ _)) (.cons (.sc _ rfl) .nil))⟩
end Go.Proofs.YtmechmjjcgdpdaaGreatDoor
